/- Plain laws in the form in which the statements of polynomials ask them. -/
import Derived.Test.YtafhcppigpjcpaaDoorHas
import Derived.Test.YtafhcppigpjcpaaDoorRefa
set_option linter.unusedVariables false
set_option linter.unusedSimpArgs false
namespace Go.Proofs.YtafhcppigpjcpaaDoor

theorem in_round {s : Sp} {E D : Int} (hD : 0 < D) (h : In s E D) : s.lo ≤ dn E D ∧ up E D ≤ s.hi := ⟨(le_dn hD).2 h.1, (up_le hD).2 h.2⟩
theorem orErr_ok {α : Type} {c : Option Nat} {r : Except Nat α} {s : α} (h : orErr c r = .ok s) : c = none ∧ r = .ok s := by
  cases c with
  | none => exact ⟨rfl, h⟩
  | some e => cases h
theorem horner_has {p : List Int} {x s : Sp} {n : Int} (hs : smallB p n = true) (h1 : x.lo ≤ n) (h2 : n ≤ x.hi) (h : hornerF p x = .ok s) : s.lo ≤ dn (exP n p) 1000000000000 ∧ up (exP n p) 1000000000000 ≤ s.hi :=
  in_round (by decide) (nested_at (smallB_true hs).2.1 (orErr_ok h).2 ⟨h1, h2⟩)
theorem powers_has {p : List Int} {x s : Sp} {n : Int} (hs : smallB p n = true) (h1 : x.lo ≤ n) (h2 : n ≤ x.hi) (h : powersF p x = .ok s) : s.lo ≤ dn (exP n p) 1000000000000 ∧ up (exP n p) 1000000000000 ≤ s.hi :=
  in_round (by decide) (added_at (smallB_true hs).2.1 (orErr_ok h).2 ⟨h1, h2⟩)
theorem crange_has {p : List Int} {x s : Sp} {n : Int} (hs : smallB p n = true) (h1 : x.lo ≤ n) (h2 : n ≤ x.hi) (h : crangeF p x = .ok s) : s.lo ≤ dn (exP n p) 1000000000000 ∧ up (exP n p) 1000000000000 ≤ s.hi :=
  in_round (by decide) (around_at (smallB_true hs).1 (smallB_true hs).2.1 (orErr_ok h).2 ⟨h1, h2⟩)
theorem best_has {p : List Int} {x s : Sp} {n : Int} (hs : smallB p n = true) (h1 : x.lo ≤ n) (h2 : n ≤ x.hi) (h : bestF p x = .ok s) : s.lo ≤ dn (exP n p) 1000000000000 ∧ up (exP n p) 1000000000000 ≤ s.hi :=
  in_round (by decide) (tight_at (smallB_true hs).1 (smallB_true hs).2.1 (orErr_ok h).2 ⟨h1, h2⟩)
theorem mrange_has {p : List Int} {x s : Sp} {n : Int} (hs : smallB p n = true) (h1 : x.lo ≤ n) (h2 : n ≤ x.hi) (h : mrangeF p x = .ok s) : s.lo ≤ dn (exP n p) 1000000000000 ∧ up (exP n p) 1000000000000 ≤ s.hi :=
  in_round (by decide) (over_at (smallB_true hs).1 (smallB_true hs).2.1 (orErr_ok h).2 ⟨h1, h2⟩)
theorem mway_has {p : List Int} {x : Sp} {n m v : Int} (hs : smallB p n = true) (h1 : x.lo ≤ n) (h2 : n ≤ x.hi) (h3 : x.lo ≤ m) (h4 : m ≤ x.hi) (h : mwayF p x = .ok v) :
    v = 0 ∨ (v = 1 ∧ (n ≤ m → exP n p ≤ exP m p) ∧ (m ≤ n → exP m p ≤ exP n p)) ∨ (v = -1 ∧ (n ≤ m → exP m p ≤ exP n p) ∧ (m ≤ n → exP n p ≤ exP m p)) := by
  obtain ⟨g1, g2, -⟩ := smallB_true hs
  unfold mwayF at h
  cases hc : cslopeF p x with
  | error e => rw [hc] at h; cases h
  | ok d =>
    rw [hc] at h
    injection h with h
    have hst := (orErr_ok hc).2
    rcases wayF_cases d with ⟨e, hd⟩ | ⟨e, hd, -⟩ | ⟨e, -, -⟩
    · rw [e] at h
      exact .inr (.inl ⟨h.symm, fun hh => way_up g1 g2 hst hd ⟨h3, h4⟩ ⟨h1, h2⟩ hh, fun hh => way_up g1 g2 hst hd ⟨h1, h2⟩ ⟨h3, h4⟩ hh⟩)
    · rw [e] at h
      exact .inr (.inr ⟨h.symm, fun hh => way_down g1 g2 hst hd ⟨h3, h4⟩ ⟨h1, h2⟩ hh, fun hh => way_down g1 g2 hst hd ⟨h1, h2⟩ ⟨h3, h4⟩ hh⟩)
    · rw [e] at h
      exact .inl h.symm
/-- Best of three is told only where each of the three is, and lies in each. -/
theorem best_parts {p : List Int} {x t : Sp} (h : bestF p x = .ok t) : ∃ a b c, crangeF p x = .ok a ∧ hornerF p x = .ok b ∧ powersF p x = .ok c ∧
    a.lo ≤ t.lo ∧ t.hi ≤ a.hi ∧ b.lo ≤ t.lo ∧ t.hi ≤ b.hi ∧ c.lo ≤ t.lo ∧ t.hi ≤ c.hi ∧ t.lo ≤ t.hi := by
  obtain ⟨hp, ht⟩ := orErr_ok h
  unfold tightF at ht
  split at ht
  · cases ht
  · rename_i a h1
    split at ht
    · cases ht
    · rename_i b h2
      split at ht
      · cases ht
      · rename_i ab h3
        split at ht
        · cases ht
        · rename_i c h4
          have k1 := com_within h3
          have k2 := com_within ht
          refine ⟨c, a, b, by simp [crangeF, hp, orErr, h4], by simp [hornerF, hp, orErr, h1], by simp [powersF, hp, orErr, h2], ?_⟩
          omega
end Go.Proofs.YtafhcppigpjcpaaDoor
