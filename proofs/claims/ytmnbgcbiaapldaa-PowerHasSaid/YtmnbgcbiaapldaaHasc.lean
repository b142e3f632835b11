/- Plain laws: from the middle, best of three, up or down alone, pieces, roots, Newton: what a number comes to is not left out. -/
import Derived.Test.YtmnbgcbiaapldaaHasb
set_option linter.unusedVariables false
set_option linter.unusedSimpArgs false
namespace Go.Proofs.Ytmnbgcbiaapldaa

/-- What a polynomial is at n, by 10^12. -/
abbrev exP (n : Int) (p : List Int) : Int := pNum n 1 0 p
theorem slopeG_map : ∀ (p d : List Int) (k : Nat), slopeG k p = .ok d → d = p.mapIdx fun i n => n * ((k + i : Nat) : Int)
  | [], d, k, h => by
    unfold slopeG at h
    injection h with h
    simp [h.symm]
  | n :: p, d, k, h => by
    unfold slopeG at h
    split at h
    · split at h
      · cases h
      · rename_i l hl
        injection h with h
        subst h
        rw [slopeG_map p l (k + 1) hl, List.mapIdx_cons]
        simp only [Nat.add_zero]
        congr 1
        refine List.mapIdx_eq_mapIdx_iff.2 fun i hi => ?_
        rw [show k + 1 + i = k + (i + 1) by omega]
    · cases h
/-- Simpson's rule is exact here. -/
theorem slope_law {p d : List Int} (h0 : 0 < p.length) (h5 : p.length ≤ 5) (h : slopeF p = .ok d) (n m : Int) :
    24000 * (exP n p - exP m p) = (n - m) * (4 * pNum n 1 0 d + pNum (n + m) 2 0 d + 4 * pNum m 1 0 d) := by
  unfold slopeF at h
  match p, h0, h5 with
  | [c0], _, _ =>
    simp at h
    subst h
    simp [exP, pNum]
  | [c0, c1], _, _ =>
    simp only [List.length_cons, List.length_nil, List.tail_cons] at h
    rw [if_neg (by decide)] at h
    have := slopeG_map _ _ _ h
    subst this
    simp [exP, pNum, List.mapIdx_cons]
    grind
  | [c0, c1, c2], _, _ =>
    simp only [List.length_cons, List.length_nil, List.tail_cons] at h
    rw [if_neg (by decide)] at h
    have := slopeG_map _ _ _ h
    subst this
    simp [exP, pNum, List.mapIdx_cons]
    grind
  | [c0, c1, c2, c3], _, _ =>
    simp only [List.length_cons, List.length_nil, List.tail_cons] at h
    rw [if_neg (by decide)] at h
    have := slopeG_map _ _ _ h
    subst this
    simp [exP, pNum, List.mapIdx_cons]
    grind
  | [c0, c1, c2, c3, c4], _, _ =>
    simp only [List.length_cons, List.length_nil, List.tail_cons] at h
    rw [if_neg (by decide)] at h
    have := slopeG_map _ _ _ h
    subst this
    simp [exP, pNum, List.mapIdx_cons]
    grind
theorem slope_len {p d : List Int} (h5 : p.length ≤ 5) (h : slopeF p = .ok d) : d.length ≤ 5 := by
  unfold slopeF at h
  split at h
  · injection h with h
    subst h
    simp
  · have := slopeG_map _ _ _ h
    subst this
    simp
    omega
/-- The slope between two numbers of a span, by 24 * 10^12: it lies in the slope over the span. -/
theorem steep_in {p : List Int} {x d : Sp} {n m : Int} (h0 : 0 < p.length) (h5 : p.length ≤ 5) (h : steepF p x = .ok d) (hn : x.lo ≤ n ∧ n ≤ x.hi) (hm : x.lo ≤ m ∧ m ≤ x.hi) :
    ∃ T, 24000 * (exP n p - exP m p) = (n - m) * T ∧ In d T 24000000000000 := by
  unfold steepF at h
  split at h
  · cases h
  · rename_i l hl
    have hl5 := slope_len h5 hl
    have i1 := nested_in4 (a := n) (b := 1) (by decide) (in_one hn.1 hn.2) hl5 h
    have i2 := nested_in4 (a := m) (b := 1) (by decide) (in_one hm.1 hm.2) hl5 h
    have i3 := nested_in4 (a := n + m) (b := 2) (x := x) (by decide) ⟨by omega, by omega⟩ hl5 h
    refine ⟨_, slope_law h0 h5 hl n m, ?_⟩
    unfold In at *
    simp only [Int.mul_one, show (1000 * 2 : Int) ^ 4 = 16000000000000 by decide, show (1000 : Int) ^ 4 = 1000000000000 by decide] at i1 i2 i3
    omega
theorem half_in {x : Sp} (h : x.lo ≤ x.hi) : x.lo ≤ halfF x ∧ halfF x ≤ x.hi := by
  unfold halfF dn
  omega
theorem nested_at {x s : Sp} {p : List Int} {n : Int} (h5 : p.length ≤ 5) (h : nestedF x p = .ok s) (hn : x.lo ≤ n ∧ n ≤ x.hi) : In s (exP n p) 1000000000000 := by
  have := nested_in4 (a := n) (b := 1) (by decide) (in_one hn.1 hn.2) h5 h
  simpa using this
theorem added_at {x s : Sp} {p : List Int} {n : Int} (h5 : p.length ≤ 5) (h : addedF x 0 ⟨0, 0⟩ p = .ok s) (hn : x.lo ≤ n ∧ n ≤ x.hi) : In s (exP n p) 1000000000000 := by
  have := added_in (a := n) (b := 1) (by decide) (in_one hn.1 hn.2) p 0 ⟨0, 0⟩ s 0 (by omega) h ⟨by simp, by simp⟩
  simpa using this
theorem around_at {x s : Sp} {p : List Int} {n : Int} (h0 : 0 < p.length) (h5 : p.length ≤ 5) (h : aroundF p x = .ok s) (hn : x.lo ≤ n ∧ n ≤ x.hi) : In s (exP n p) 1000000000000 := by
  have hm := half_in (x := x) (by omega)
  unfold aroundF at h
  split at h
  · cases h
  · rename_i at_ h1
    split at h
    · cases h
    · rename_i d h2
      split at h
      · cases h
      · rename_i far h3
        split at h
        · cases h
        · rename_i df h4
          generalize hM : halfF x = m at *
          have i1 := nested_at (n := m) h5 h1 ⟨by dsimp only; omega, by dsimp only; omega⟩
          obtain ⟨T, e, i2⟩ := steep_in h0 h5 h2 hn hm
          have i3 : In far (n - m) 1 := rest_in h3 (in_one hn.1 hn.2) (by have := in_alone m 1; simpa using this)
          have i4 := prod_in h4 (by decide) (by decide) i2 i3
          have i5 : In df (exP n p - exP m p) 1000000000000 := by
            refine in_le (k := 24000) (by decide) ?_
            rw [show T * (n - m) = (exP n p - exP m p) * 24000 by rw [Int.mul_comm T, ← e]; omega] at i4
            simpa using i4
          have i6 := sum_in h i1 i5
          rw [show exP m p + (exP n p - exP m p) = exP n p by omega] at i6
          exact i6
theorem tight_at {x s : Sp} {p : List Int} {n : Int} (h0 : 0 < p.length) (h5 : p.length ≤ 5) (h : tightF p x = .ok s) (hn : x.lo ≤ n ∧ n ≤ x.hi) : In s (exP n p) 1000000000000 := by
  unfold tightF at h
  split at h
  · cases h
  · rename_i a h1
    split at h
    · cases h
    · rename_i b h2
      split at h
      · cases h
      · rename_i ab h3
        split at h
        · cases h
        · rename_i c h4
          exact in_com (by decide) h (in_com (by decide) h3 (nested_at h5 h1 hn) (added_at h5 h2 hn)) (around_at h0 h5 h4 hn)
/-- Where the slope is not below 0 a greater number gives no less; where it is not above 0, no more. -/
theorem way_up {p : List Int} {x d : Sp} {n m : Int} (h0 : 0 < p.length) (h5 : p.length ≤ 5) (h : steepF p x = .ok d) (hd : 0 ≤ d.lo) (hn : x.lo ≤ n ∧ n ≤ x.hi) (hm : x.lo ≤ m ∧ m ≤ x.hi) (hnm : m ≤ n) : exP m p ≤ exP n p := by
  obtain ⟨T, e, i⟩ := steep_in h0 h5 h hn hm
  have hT : 0 ≤ T := by have := i.1; omega
  have : 0 ≤ (n - m) * T := Int.mul_nonneg (by omega) hT
  omega
theorem way_down {p : List Int} {x d : Sp} {n m : Int} (h0 : 0 < p.length) (h5 : p.length ≤ 5) (h : steepF p x = .ok d) (hd : d.hi ≤ 0) (hn : x.lo ≤ n ∧ n ≤ x.hi) (hm : x.lo ≤ m ∧ m ≤ x.hi) (hnm : m ≤ n) : exP n p ≤ exP m p := by
  obtain ⟨T, e, i⟩ := steep_in h0 h5 h hn hm
  have hT : T ≤ 0 := by have := i.2; omega
  have : (n - m) * T ≤ 0 := Int.mul_nonpos_of_nonneg_of_nonpos (by omega) hT
  omega
theorem wayF_cases (d : Sp) : (wayF d = 1 ∧ 0 ≤ d.lo) ∨ (wayF d = -1 ∧ d.hi ≤ 0 ∧ ¬ 0 ≤ d.lo) ∨ (wayF d = 0 ∧ ¬ 0 ≤ d.lo ∧ ¬ d.hi ≤ 0) := by
  unfold wayF
  by_cases h1 : 0 ≤ d.lo
  · simp [h1]
  · by_cases h2 : d.hi ≤ 0
    · simp [h1, h2]
    · simp [h1, h2]
theorem over_at {x s : Sp} {p : List Int} {n : Int} (h0 : 0 < p.length) (h5 : p.length ≤ 5) (h : overF p x = .ok s) (hn : x.lo ≤ n ∧ n ≤ x.hi) : In s (exP n p) 1000000000000 := by
  unfold overF at h
  split at h
  · cases h
  · rename_i best h1
    split at h
    · cases h
    · rename_i d h2
      rcases wayF_cases d with ⟨e, hd⟩ | ⟨e, hd, -⟩ | ⟨e, -, -⟩
      · rw [e, if_neg (by decide)] at h
        simp only [show ¬ (1 : Int) = -1 by decide, if_false] at h
        split at h
        · cases h
        · rename_i a h3
          split at h
          · cases h
          · rename_i b h4
            injection h with h
            subst h
            have i1 := nested_at (n := x.lo) h5 h3 ⟨Int.le_refl _, Int.le_refl _⟩
            have i2 := nested_at (n := x.hi) h5 h4 ⟨Int.le_refl _, Int.le_refl _⟩
            have k1 := way_up h0 h5 h2 hd hn (show x.lo ≤ x.lo ∧ x.lo ≤ x.hi by omega) hn.1
            have k2 := way_up h0 h5 h2 hd (show x.lo ≤ x.hi ∧ x.hi ≤ x.hi by omega) hn hn.2
            unfold In at *
            dsimp only
            omega
      · rw [e, if_neg (by decide)] at h
        simp only [if_true] at h
        split at h
        · cases h
        · rename_i a h3
          split at h
          · cases h
          · rename_i b h4
            injection h with h
            subst h
            have i1 := nested_at (n := x.hi) h5 h3 ⟨Int.le_refl _, Int.le_refl _⟩
            have i2 := nested_at (n := x.lo) h5 h4 ⟨Int.le_refl _, Int.le_refl _⟩
            have k1 := way_down h0 h5 h2 hd hn (show x.lo ≤ x.lo ∧ x.lo ≤ x.hi by omega) hn.1
            have k2 := way_down h0 h5 h2 hd (show x.lo ≤ x.hi ∧ x.hi ≤ x.hi by omega) hn hn.2
            unfold In at *
            dsimp only
            omega
      · rw [e, if_pos rfl] at h
        injection h with h
        subst h
        exact tight_at h0 h5 h1 hn
end Go.Proofs.Ytmnbgcbiaapldaa
