/- The walks of package power. The walks of package power: signed, Raised, Of. The walks of slices.ContainsFunc at ints, and of package poly's Check and Both. -/
import Derived.Test.YtomfbhohaiffpaaDoorSpan
set_option linter.unusedVariables false
set_option linter.unusedSimpArgs false
namespace Go.Proofs.YtomfbhohaiffpaaDoor
open Go.RowKit

theorem pdn_up (x y : Int) : pdn x y ≤ pup x y ∧ pup x y ≤ pdn x y + 1 := by unfold pdn pup dn up; omega
theorem pdn_nonneg {x y : Int} (hx : 0 ≤ x) (hy : 0 ≤ y) : 0 ≤ pdn x y := by
  have := Int.mul_nonneg hx hy
  unfold pdn dn; omega
theorem pdn_mono {x x' y : Int} (hy : 0 ≤ y) (h : x ≤ x') : pdn x y ≤ pdn x' y := by
  have : x * y ≤ x' * y := Int.mul_le_mul_of_nonneg_right h hy
  unfold pdn dn; omega
theorem pup_mono {x x' y : Int} (hy : 0 ≤ y) (h : x ≤ x') : pup x y ≤ pup x' y := by
  have : x * y ≤ x' * y := Int.mul_le_mul_of_nonneg_right h hy
  unfold pup up; omega
theorem again_bd (n : Int) (hn : 0 ≤ n) : ∀ (t : Nat) (lo hi : Int), againF n t = .ok (lo, hi) → 0 ≤ lo ∧ lo ≤ hi ∧ hi ≤ 1000000000
  | 0, lo, hi, h => by simp [againF] at h; omega
  | t + 1, lo, hi, h => by
    unfold againF at h
    split at h
    · cases h
    · rename_i l u hp
      have ih := again_bd n hn t l u hp
      split at h
      · rename_i hM
        simp at h
        obtain ⟨rfl, rfl⟩ := h
        have h1 := pdn_nonneg ih.1 hn
        have h2 := pdn_mono hn ih.2.1
        have h3 := pdn_up u n
        exact ⟨h1, by omega, hM.2⟩
      · cases h
theorem again_err (n : Int) (i : Nat) (e : Nat) (h : againF n i = .error e) : ∀ j, i ≤ j → againF n j = .error e
  | 0, hj => by
    obtain rfl : i = 0 := by omega
    exact h
  | j + 1, hj => by
    rcases Nat.lt_or_eq_of_le hj with h1 | h1
    · unfold againF
      rw [again_err n i e h j (by omega)]
    · rw [← h1]; exact h
theorem again_ok {n : Int} {i : Nat} {lo hi : Int} (h : againF n i = .ok (lo, hi)) (hm : M (pup hi n)) : againF n (i + 1) = .ok (pdn lo n, pup hi n) := by
  unfold againF; rw [h]; simp [hm]
theorem again_no {n : Int} {i : Nat} {lo hi : Int} (h : againF n i = .ok (lo, hi)) (hm : ¬ M (pup hi n)) : againF n (i + 1) = .error 4 := by
  unfold againF; rw [h]; simp [hm]

end Go.Proofs.YtomfbhohaiffpaaDoor

namespace Go.Proofs.YtomfbhohaiffpaaDoor
open Go.RowKit

theorem apart_bd (a : Sp) (h1 : M a.lo) (h2 : M a.hi) : M (apartF a).1 ∧ M (apartF a).2 := by
  obtain ⟨_, _⟩ := h1; obtain ⟨_, _⟩ := h2
  unfold apartF M
  dsimp only
  split <;> omega

theorem raised_bad1 {p : Int × Int} {t e : Nat} (h : signedF p.1 t = .error e) : raisedG p t = .error e := by simp [raisedG, h]
theorem raised_bad2 {p : Int × Int} {t e : Nat} {x : Int × Int} (h : signedF p.1 t = .ok x) (h' : signedF p.2 t = .error e) : raisedG p t = .error e := by simp [raisedG, h, h']
theorem raised_ok {p : Int × Int} {t : Nat} {x y : Int × Int} (h : signedF p.1 t = .ok x) (h' : signedF p.2 t = .ok y) : raisedG p t = .ok ⟨x.1, y.2⟩ := by simp [raisedG, h, h']
theorem power_bad {a : Sp} {n : Int} {e : Nat} (h : checkF a = some e) : powerF a n = .error e := by simp [powerF, h]
end Go.Proofs.YtomfbhohaiffpaaDoor

namespace Go.Proofs.YtomfbhohaiffpaaDoor
open Go.RowKit

def IdxP (g : Int → Bool) (l : List Int) (w : World) (e : Ending) (w' : World) : Prop := ∃ i : Int, e = .returned (.int .i64 i) ∧ (0 ≤ i ↔ l.any g = true) ∧ w = w'
theorem any_take (g : Int → Bool) (l : List Int) (k : Nat) (h : k < l.length) : (l.take (k + 1)).any g = ((l.take k).any g || g (l[k]?.getD 0)) := by
  rw [take_snoc' l k h]; simp
theorem any_yes (g : Int → Bool) (l : List Int) (k : Nat) (h : k < l.length) (hg : g (l[k]?.getD 0) = true) : l.any g = true := by
  rw [List.any_eq_true]
  refine ⟨l[k], List.getElem_mem h, ?_⟩
  simpa [h] using hg
theorem idx_neg {i : Int} {b : Bool} (h : 0 ≤ i ↔ b = true) (hb : b = false) : i < 0 := by
  rcases Int.lt_or_le i 0 with h1 | h1
  · exact h1
  · rw [h.1 h1] at hb; cases hb
theorem pcheck_all {p : List Int} (h0 : 0 < p.length) (h5 : p.length ≤ 5) : pcheckF p = if p.any (fun n => !mayB n) = true then some 1 else none := by
  unfold pcheckF
  rw [if_neg (by omega), if_neg (by omega)]
  by_cases h : ∀ n ∈ p, M n
  · rw [if_pos h, if_neg]
    simp only [List.any_eq_true, not_exists]
    rintro n ⟨hn, hm⟩
    simp [mayB_true.2 (h n hn)] at hm
  · rw [if_neg h, if_pos]
    simp only [List.any_eq_true]
    apply Classical.byContradiction
    intro hc
    apply h
    intro n hn
    apply mayB_true.1
    cases hm : mayB n with
    | true => rfl
    | false => exact absurd ⟨n, hn, by simp [hm]⟩ hc
end Go.Proofs.YtomfbhohaiffpaaDoor
