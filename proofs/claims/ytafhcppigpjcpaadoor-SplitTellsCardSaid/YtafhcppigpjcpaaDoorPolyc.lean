/- The walks of package poly: Horner, Powers, Slope, Derive; of package center. -/
import Derived.Test.YtafhcppigpjcpaaDoorPolyb
set_option linter.unusedVariables false
set_option linter.unusedSimpArgs false
namespace Go.Proofs.YtafhcppigpjcpaaDoor
open Go.RowKit

theorem horner_any (A : Option Addr) (p : List Int) (c : Nat) (lo hi : Int) (w : World) (hcap : p.length ≤ c) (hr : RdI w A p) :
    Calls Tryd.prog 54 #[.slice A p.length c, .agg #[.int .i64 lo, .int .i64 hi]] w (RetX spR (hornerF p ⟨lo, hi⟩) w) := by
  have Hr := hid hr; clear hr
  cases ha : pbothF p ⟨lo, hi⟩ with
  | some n =>
    have hrr : hornerF p ⟨lo, hi⟩ = .error n := by simp [hornerF, orErr, ha]
    rw [hrr]
    have Ha := hid ha; clear ha hrr
    go_enter Tryd.func54, Tryd.ntmps54
    go_wp2_with ((go_at_call 105; refine (pboth_any _ _ _ _ _ _ (Hr.out.up (by (repeat (first | (with_reducible exact Up.refl _) | (with_reducible assumption) | (with_reducible refine Up.alloc ?_ _) | (with_reducible refine Up.drew ?_) | ((with_reducible refine Up.set ?_ ?_ _); rotate_left; focus (first | omega | (simp; done) | (simp; omega))) | (with_reducible refine Up.drewN ?_ _) | (with_reducible refine Up.call ?_ (by with_reducible assumption))))))).mono ?_; rintro e w1 ⟨x, hx, rfl, hb1⟩; rw [Ha.out] at hx; subst hx) <;> (obtain ⟨hc1, hf1⟩ := bcell hb1; obtain ⟨_, _⟩ : w.heap.size < w1.heap.size ∧ w.heap.size + 1 < w1.heap.size := (by have hle := Up.le hb1; first | omega | (simp at hle; omega) | (simp at hle; done))))
    all_goals
      (refine bodyPost_res rfl ?_; simp only [results, Tryd.results54]; go_simp; refine resPost_ok ?_)
      refine RetX.mk (.error n : Except Nat Sp) ?_ rfl rfl
      (repeat (first | (with_reducible exact Up.refl _) | (with_reducible assumption) | (with_reducible refine Up.alloc ?_ _) | (with_reducible refine Up.drew ?_) | ((with_reducible refine Up.set ?_ ?_ _); rotate_left; focus (first | omega | (simp; done) | (simp; omega))) | (with_reducible refine Up.drewN ?_ _) | (with_reducible refine Up.call ?_ (by with_reducible assumption))))
  | none =>
    have hrr : hornerF p ⟨lo, hi⟩ = nestedF ⟨lo, hi⟩ p := by simp [hornerF, orErr, ha]
    rw [hrr]
    obtain ⟨q1, q2, q3, q4⟩ := pboth_none ha
    have Hin := hid (fun W hW => nested_any A p c lo hi W q1 q2 hcap hW q3 q4)
    have Ha := hid ha; clear ha hrr q3
    go_enter Tryd.func54, Tryd.ntmps54
    go_wp2_with (first
      | ((go_at_call 105; refine (pboth_any _ _ _ _ _ _ (Hr.out.up (by (repeat (first | (with_reducible exact Up.refl _) | (with_reducible assumption) | (with_reducible refine Up.alloc ?_ _) | (with_reducible refine Up.drew ?_) | ((with_reducible refine Up.set ?_ ?_ _); rotate_left; focus (first | omega | (simp; done) | (simp; omega))) | (with_reducible refine Up.drewN ?_ _) | (with_reducible refine Up.call ?_ (by with_reducible assumption))))))).mono ?_; rintro e w1 ⟨x, hx, rfl, hb1⟩; rw [Ha.out] at hx; subst hx) <;> (obtain ⟨hc1, hf1⟩ := bcell hb1; obtain ⟨_, _⟩ : w.heap.size < w1.heap.size ∧ w.heap.size + 1 < w1.heap.size := (by have hle := Up.le hb1; first | omega | (simp at hle; omega) | (simp at hle; done))))
      | ((go_at_call 114; refine (Hin.out _ (Hr.out.up (by (repeat (first | (with_reducible exact Up.refl _) | (with_reducible assumption) | (with_reducible refine Up.alloc ?_ _) | (with_reducible refine Up.drew ?_) | ((with_reducible refine Up.set ?_ ?_ _); rotate_left; focus (first | omega | (simp; done) | (simp; omega))) | (with_reducible refine Up.drewN ?_ _) | (with_reducible refine Up.call ?_ (by with_reducible assumption))))))).mono ?_; rintro e w2 ⟨(n2|s), hx2, rfl, hb2⟩) <;> (obtain ⟨hc2, hf2⟩ := bcell hb2; obtain ⟨_, _⟩ : w.heap.size < w2.heap.size ∧ w.heap.size + 1 < w2.heap.size := (by have hle := Up.le hb2; first | omega | (simp at hle; omega) | (simp at hle; done)))))
    all_goals
      (refine bodyPost_res rfl ?_; simp only [results, Tryd.results54]; go_simp; refine resPost_ok ?_)
      first
        | refine RetX.mk (.error n2) ?_ ?_ rfl
        | refine RetX.mk (.ok s) ?_ ?_ rfl
      · (repeat (first | (with_reducible exact Up.refl _) | (with_reducible assumption) | (with_reducible refine Up.alloc ?_ _) | (with_reducible refine Up.drew ?_) | ((with_reducible refine Up.set ?_ ?_ _); rotate_left; focus (first | omega | (simp; done) | (simp; omega))) | (with_reducible refine Up.drewN ?_ _) | (with_reducible refine Up.call ?_ (by with_reducible assumption))))
      · first | exact hx2 | rfl
theorem powers_any (A : Option Addr) (p : List Int) (c : Nat) (lo hi : Int) (w : World) (hcap : p.length ≤ c) (hr : RdI w A p) :
    Calls Tryd.prog 56 #[.slice A p.length c, .agg #[.int .i64 lo, .int .i64 hi]] w (RetX spR (powersF p ⟨lo, hi⟩) w) := by
  have Hr := hid hr; clear hr
  cases ha : pbothF p ⟨lo, hi⟩ with
  | some n =>
    have hrr : powersF p ⟨lo, hi⟩ = .error n := by simp [powersF, orErr, ha]
    rw [hrr]
    have Ha := hid ha; clear ha hrr
    go_enter Tryd.func56, Tryd.ntmps56
    go_wp2_with ((go_at_call 105; refine (pboth_any _ _ _ _ _ _ (Hr.out.up (by (repeat (first | (with_reducible exact Up.refl _) | (with_reducible assumption) | (with_reducible refine Up.alloc ?_ _) | (with_reducible refine Up.drew ?_) | ((with_reducible refine Up.set ?_ ?_ _); rotate_left; focus (first | omega | (simp; done) | (simp; omega))) | (with_reducible refine Up.drewN ?_ _) | (with_reducible refine Up.call ?_ (by with_reducible assumption))))))).mono ?_; rintro e w1 ⟨x, hx, rfl, hb1⟩; rw [Ha.out] at hx; subst hx) <;> (obtain ⟨hc1, hf1⟩ := bcell hb1; obtain ⟨_, _⟩ : w.heap.size < w1.heap.size ∧ w.heap.size + 1 < w1.heap.size := (by have hle := Up.le hb1; first | omega | (simp at hle; omega) | (simp at hle; done))))
    all_goals
      (refine bodyPost_res rfl ?_; simp only [results, Tryd.results56]; go_simp; refine resPost_ok ?_)
      refine RetX.mk (.error n : Except Nat Sp) ?_ rfl rfl
      (repeat (first | (with_reducible exact Up.refl _) | (with_reducible assumption) | (with_reducible refine Up.alloc ?_ _) | (with_reducible refine Up.drew ?_) | ((with_reducible refine Up.set ?_ ?_ _); rotate_left; focus (first | omega | (simp; done) | (simp; omega))) | (with_reducible refine Up.drewN ?_ _) | (with_reducible refine Up.call ?_ (by with_reducible assumption))))
  | none =>
    have hrr : powersF p ⟨lo, hi⟩ = addedF ⟨lo, hi⟩ 0 ⟨0, 0⟩ p := by simp [powersF, orErr, ha]
    rw [hrr]
    obtain ⟨q1, q2, q3, q4⟩ := pboth_none ha
    have Hin := hid (fun W hW => added_any A p c lo hi W q2 hW q3 q4)
    have Ha := hid ha; clear ha hrr q3
    go_enter Tryd.func56, Tryd.ntmps56
    go_wp2_with (first
      | ((go_at_call 105; refine (pboth_any _ _ _ _ _ _ (Hr.out.up (by (repeat (first | (with_reducible exact Up.refl _) | (with_reducible assumption) | (with_reducible refine Up.alloc ?_ _) | (with_reducible refine Up.drew ?_) | ((with_reducible refine Up.set ?_ ?_ _); rotate_left; focus (first | omega | (simp; done) | (simp; omega))) | (with_reducible refine Up.drewN ?_ _) | (with_reducible refine Up.call ?_ (by with_reducible assumption))))))).mono ?_; rintro e w1 ⟨x, hx, rfl, hb1⟩; rw [Ha.out] at hx; subst hx) <;> (obtain ⟨hc1, hf1⟩ := bcell hb1; obtain ⟨_, _⟩ : w.heap.size < w1.heap.size ∧ w.heap.size + 1 < w1.heap.size := (by have hle := Up.le hb1; first | omega | (simp at hle; omega) | (simp at hle; done))))
      | ((go_at_call 116; refine (Hin.out _ (Hr.out.up (by (repeat (first | (with_reducible exact Up.refl _) | (with_reducible assumption) | (with_reducible refine Up.alloc ?_ _) | (with_reducible refine Up.drew ?_) | ((with_reducible refine Up.set ?_ ?_ _); rotate_left; focus (first | omega | (simp; done) | (simp; omega))) | (with_reducible refine Up.drewN ?_ _) | (with_reducible refine Up.call ?_ (by with_reducible assumption))))))).mono ?_; rintro e w2 ⟨(n2|s), hx2, rfl, hb2⟩) <;> (obtain ⟨hc2, hf2⟩ := bcell hb2; obtain ⟨_, _⟩ : w.heap.size < w2.heap.size ∧ w.heap.size + 1 < w2.heap.size := (by have hle := Up.le hb2; first | omega | (simp at hle; omega) | (simp at hle; done)))))
    all_goals
      (refine bodyPost_res rfl ?_; simp only [results, Tryd.results56]; go_simp; refine resPost_ok ?_)
      first
        | refine RetX.mk (.error n2) ?_ ?_ rfl
        | refine RetX.mk (.ok s) ?_ ?_ rfl
      · (repeat (first | (with_reducible exact Up.refl _) | (with_reducible assumption) | (with_reducible refine Up.alloc ?_ _) | (with_reducible refine Up.drew ?_) | ((with_reducible refine Up.set ?_ ?_ _); rotate_left; focus (first | omega | (simp; done) | (simp; omega))) | (with_reducible refine Up.drewN ?_ _) | (with_reducible refine Up.call ?_ (by with_reducible assumption))))
      · first | exact hx2 | rfl
end Go.Proofs.YtafhcppigpjcpaaDoor
