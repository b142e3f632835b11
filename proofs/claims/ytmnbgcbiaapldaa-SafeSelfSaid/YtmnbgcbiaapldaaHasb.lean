/- Plain laws: powers, sums of powers, slopes: what a number comes to lies in what its span comes to. -/
import Derived.Test.YtmnbgcbiaapldaaHas
set_option linter.unusedVariables false
set_option linter.unusedSimpArgs false
namespace Go.Proofs.Ytmnbgcbiaapldaa

theorem in_le {s : Sp} {N D k : Int} (hk : 0 < k) (h : In s (N * k) (D * k)) : In s N D := by
  have e : ∀ z : Int, z * (D * k) = z * D * k := fun z => (Int.mul_assoc _ _ _).symm
  unfold In at *
  rw [e, e] at h
  exact ⟨Int.le_of_mul_le_mul_right h.1 hk, Int.le_of_mul_le_mul_right h.2 hk⟩
theorem pdn_nonneg {x y : Int} (hx : 0 ≤ x) (hy : 0 ≤ y) : 0 ≤ pdn x y := by
  unfold pdn dn
  exact Int.ediv_nonneg (Int.mul_nonneg hx hy) (by decide)
theorem pup_nonneg {x y : Int} (hx : 0 ≤ x) (hy : 0 ≤ y) : 0 ≤ pup x y := by
  have := pup_ge x y
  have := Int.mul_nonneg hx hy
  omega
/-- Again and again: the power of a number a by b. -/
theorem again_in {n a b : Int} (hn : 0 ≤ n) (ha : 0 ≤ a) (hb : 0 < b) : ∀ (t : Nat) (lo hi : Int), againF n t = .ok (lo, hi) →
    0 ≤ lo ∧ 0 ≤ hi ∧ (n * b ≤ a → lo * (1000 * b) ^ t ≤ 1000 * a ^ t) ∧ (a ≤ n * b → 1000 * a ^ t ≤ hi * (1000 * b) ^ t)
  | 0, lo, hi, h => by
    simp [againF] at h
    obtain ⟨rfl, rfl⟩ := h
    simp
  | t + 1, lo, hi, h => by
    unfold againF at h
    split at h
    · cases h
    · rename_i l u hq
      split at h
      · injection h with h
        injection h with h1 h2
        subst h1 h2
        obtain ⟨i1, i2, i3, i4⟩ := again_in hn ha hb t l u hq
        have hP : (0 : Int) ≤ (1000 * b) ^ t := Int.pow_nonneg (by omega)
        have hA : (0 : Int) ≤ a ^ t := Int.pow_nonneg ha
        have p1 := pdn_le l n
        have p2 := pup_ge u n
        refine ⟨pdn_nonneg i1 hn, pup_nonneg i2 hn, fun h => ?_, fun h => ?_⟩
        · have h3 := i3 h
          have e1 : pdn l n * (1000 * b) ^ (t + 1) = (pdn l n * 1000) * (b * (1000 * b) ^ t) := by rw [Int.pow_succ]; grind
          have e2 : 1000 * a ^ (t + 1) = (1000 * a ^ t) * a := by rw [Int.pow_succ, Int.mul_assoc]
          rw [e1, e2]
          have k1 : (pdn l n * 1000) * (b * (1000 * b) ^ t) ≤ (l * n) * (b * (1000 * b) ^ t) := Int.mul_le_mul_of_nonneg_right p1 (Int.mul_nonneg (by omega) hP)
          have k2 : (l * (1000 * b) ^ t) * (n * b) ≤ (l * (1000 * b) ^ t) * a := Int.mul_le_mul_of_nonneg_left h (Int.mul_nonneg i1 hP)
          have k3 : (l * (1000 * b) ^ t) * a ≤ (1000 * a ^ t) * a := Int.mul_le_mul_of_nonneg_right h3 ha
          have e3 : (l * n) * (b * (1000 * b) ^ t) = (l * (1000 * b) ^ t) * (n * b) := by grind
          omega
        · have h4 := i4 h
          have e1 : pup u n * (1000 * b) ^ (t + 1) = (pup u n * 1000) * (b * (1000 * b) ^ t) := by rw [Int.pow_succ]; grind
          have e2 : 1000 * a ^ (t + 1) = (1000 * a ^ t) * a := by rw [Int.pow_succ, Int.mul_assoc]
          rw [e1, e2]
          have k1 : (u * n) * (b * (1000 * b) ^ t) ≤ (pup u n * 1000) * (b * (1000 * b) ^ t) := Int.mul_le_mul_of_nonneg_right p2 (Int.mul_nonneg (by omega) hP)
          have k2 : (u * (1000 * b) ^ t) * a ≤ (u * (1000 * b) ^ t) * (n * b) := Int.mul_le_mul_of_nonneg_left h (Int.mul_nonneg i2 hP)
          have k3 : (1000 * a ^ t) * a ≤ (u * (1000 * b) ^ t) * a := Int.mul_le_mul_of_nonneg_right h4 ha
          have e3 : (u * n) * (b * (1000 * b) ^ t) = (u * (1000 * b) ^ t) * (n * b) := by grind
          omega
      · cases h
theorem neg_pow_odd (a : Int) (t : Nat) (h : t % 2 = 1) : (-a) ^ t = -(a ^ t) := by
  obtain ⟨k, rfl⟩ : ∃ k, t = 2 * k + 1 := ⟨t / 2, by omega⟩
  rw [Int.pow_succ, Int.pow_succ, Int.pow_mul, Int.pow_mul]
  rw [show (-a) ^ 2 = a ^ 2 by grind]
  grind
theorem neg_pow_even (a : Int) (t : Nat) (h : t % 2 = 0) : (-a) ^ t = a ^ t := by
  obtain ⟨k, rfl⟩ : ∃ k, t = 2 * k := ⟨t / 2, by omega⟩
  rw [Int.pow_mul, Int.pow_mul, show (-a) ^ 2 = a ^ 2 by grind]
/-- signed, from below and from above, where the number is no less than, no more than a by b. -/
theorem signed_lo {n a b : Int} {t : Nat} {p : Int × Int} (ht : t % 2 = 1 ∨ 0 ≤ n) (hb : 0 < b) (h : signedF n t = .ok p) (hn : n * b ≤ a) : p.1 * (1000 * b) ^ t ≤ 1000 * a ^ t := by
  unfold signedF at h
  split at h
  · rename_i h0
    have ha : 0 ≤ a := Int.le_trans (Int.mul_nonneg h0 (by omega)) hn
    exact (again_in h0 ha hb t p.1 p.2 h).2.2.1 hn
  · rename_i h0
    have ht : t % 2 = 1 := by omega
    split at h
    · cases h
    · rename_i l u hq
      injection h with h
      subst h
      dsimp only
      rcases Int.le_total 0 a with ha | ha
      · have hh := again_in (a := 0) (b := b) (show 0 ≤ -n by omega) (Int.le_refl _) hb t l u hq
        have hp : (0 : Int) ≤ u * (1000 * b) ^ t := Int.mul_nonneg hh.2.1 (Int.pow_nonneg (by omega))
        have hA : (0 : Int) ≤ a ^ t := Int.pow_nonneg ha
        rw [Int.neg_mul]
        omega
      · have hh := again_in (a := -a) (b := b) (show 0 ≤ -n by omega) (by omega) hb t l u hq
        have := hh.2.2.2 (by rw [Int.neg_mul]; omega)
        rw [neg_pow_odd a t ht] at this
        rw [Int.neg_mul]
        omega
theorem signed_hi {n a b : Int} {t : Nat} {p : Int × Int} (ht : t % 2 = 1 ∨ (0 ≤ n ∧ 0 ≤ a)) (hb : 0 < b) (h : signedF n t = .ok p) (hn : a ≤ n * b) : 1000 * a ^ t ≤ p.2 * (1000 * b) ^ t := by
  unfold signedF at h
  split at h
  · rename_i h0
    rcases Int.le_total 0 a with ha | ha
    · exact (again_in h0 ha hb t p.1 p.2 h).2.2.2 hn
    · by_cases ht1 : t % 2 = 1
      · have hh := again_in (a := 0) (b := b) h0 (Int.le_refl _) hb t p.1 p.2 h
        have hp : (0 : Int) ≤ p.2 * (1000 * b) ^ t := Int.mul_nonneg hh.2.1 (Int.pow_nonneg (by omega))
        have hA : (0 : Int) ≤ (-a) ^ t := Int.pow_nonneg (by omega)
        rw [neg_pow_odd a t ht1] at hA
        omega
      · have : a = 0 := by omega
        subst this
        exact (again_in h0 (Int.le_refl _) hb t p.1 p.2 h).2.2.2 hn
  · rename_i h0
    have ht : t % 2 = 1 := by omega
    split at h
    · cases h
    · rename_i l u hq
      injection h with h
      subst h
      dsimp only
      have hnb : n * b ≤ 0 := Int.mul_nonpos_of_nonpos_of_nonneg (by omega) (by omega)
      have hh := again_in (a := -a) (b := b) (show 0 ≤ -n by omega) (by omega) hb t l u hq
      have := hh.2.2.1 (by rw [Int.neg_mul]; omega)
      rw [neg_pow_odd a t ht] at this
      rw [Int.neg_mul]
      omega
theorem apart_in {s : Sp} {a b : Int} (hb : 0 < b) (h : In s a b) : 0 ≤ (apartF s).1 ∧ 0 ≤ (apartF s).2 ∧ ((apartF s).1 * b ≤ a ∨ (apartF s).1 * b ≤ -a) ∧ (apartF s).1 * b ≤ (if 0 ≤ a then a else -a) ∧ (if 0 ≤ a then a else -a) ≤ (apartF s).2 * b := by
  obtain ⟨h1, h2⟩ := h
  unfold apartF zeroF
  have k0 : s.lo * b ≤ s.hi * b := Int.le_trans h1 h2
  have k1 : s.lo ≤ s.hi := Int.le_of_mul_le_mul_right k0 hb
  have pos : ∀ {q : Int}, 0 ≤ q → 0 ≤ q * b := fun h => Int.mul_nonneg h (by omega)
  have neg : ∀ {q : Int}, q ≤ 0 → q * b ≤ 0 := fun h => Int.mul_nonpos_of_nonpos_of_nonneg h (by omega)
  have e1 : (-s.lo) * b = -(s.lo * b) := Int.neg_mul _ _
  have e2 : (-s.hi) * b = -(s.hi * b) := Int.neg_mul _ _
  dsimp only
  rcases Int.le_total s.lo 0 with a1 | a1 <;> rcases Int.le_total 0 s.hi with a2 | a2
  · have z : (decide (s.lo ≤ 0) && decide (0 ≤ s.hi)) = true := by simp [a1, a2]
    rw [z]
    simp only [if_true, Int.zero_mul]
    have n1 := neg a1; have n2 := pos a2
    rcases Int.le_total s.hi (-s.lo) with c | c
    · rw [Int.max_eq_right c]
      have : s.hi * b ≤ -s.lo * b := Int.mul_le_mul_of_nonneg_right c (by omega)
      refine ⟨by omega, by omega, by omega, ?_, ?_⟩ <;> split <;> omega
    · rw [Int.max_eq_left c]
      have : -s.lo * b ≤ s.hi * b := Int.mul_le_mul_of_nonneg_right c (by omega)
      refine ⟨by omega, by omega, by omega, ?_, ?_⟩ <;> split <;> omega
  · rcases Int.lt_or_eq_of_le a2 with a3 | a3
    · have z : (decide (s.lo ≤ 0) && decide (0 ≤ s.hi)) = false := by simp; omega
      rw [z]
      simp only [Bool.false_eq_true, if_false]
      have n1 := neg a1; have n2 := neg a2
      rw [Int.max_eq_right (show s.lo ≤ -s.hi by omega), Int.max_eq_right (show s.hi ≤ -s.lo by omega)]
      refine ⟨by omega, by omega, by omega, ?_, ?_⟩ <;> split <;> omega
    · have z : (decide (s.lo ≤ 0) && decide (0 ≤ s.hi)) = true := by simp; omega
      rw [z]
      simp only [if_true, Int.zero_mul]
      have n1 := neg a1; have n2 := pos (show 0 ≤ s.hi by omega)
      rw [Int.max_eq_right (show s.hi ≤ -s.lo by omega)]
      have : s.hi * b ≤ -s.lo * b := Int.mul_le_mul_of_nonneg_right (by omega) (by omega)
      refine ⟨by omega, by omega, by omega, ?_, ?_⟩ <;> split <;> omega
  · have n1 := pos a1; have n2 := pos a2
    by_cases c0 : s.lo = 0
    · have z : (decide (s.lo ≤ 0) && decide (0 ≤ s.hi)) = true := by simp; omega
      rw [z]
      simp only [if_true, Int.zero_mul]
      rw [Int.max_eq_left (show -s.lo ≤ s.hi by omega)]
      refine ⟨by omega, by omega, by omega, ?_, ?_⟩ <;> split <;> omega
    · have z : (decide (s.lo ≤ 0) && decide (0 ≤ s.hi)) = false := by simp; omega
      rw [z]
      simp only [Bool.false_eq_true, if_false]
      rw [Int.max_eq_left (show -s.hi ≤ s.lo by omega), Int.max_eq_left (show -s.lo ≤ s.hi by omega)]
      refine ⟨by omega, by omega, by omega, ?_, ?_⟩ <;> split <;> omega
  · have : s.lo = 0 := by omega
    have : s.hi = 0 := by omega
    have n1 := pos a1; have n2 := neg a2
    have z : (decide (s.lo ≤ 0) && decide (0 ≤ s.hi)) = true := by simp; omega
    rw [z]
    simp only [if_true, Int.zero_mul]
    rw [Int.max_eq_left (show -s.lo ≤ s.hi by omega)]
    refine ⟨by omega, by omega, by omega, ?_, ?_⟩ <;> split <;> omega
theorem raised_in {s r : Sp} {a b : Int} {t : Nat} (hb : 0 < b) (h : raisedF s t = .ok r) (hs : In s a b) : In r (1000 * a ^ t) ((1000 * b) ^ t) := by
  unfold raisedF raisedG at h
  split at h
  · cases h
  · rename_i p1 h1
    split at h
    · cases h
    · rename_i p2 h2
      injection h with h
      subst h
      unfold In
      dsimp only
      by_cases ht : t % 2 = 0
      · rw [if_pos ht] at h1 h2
        obtain ⟨q1, q2, -, q4, q5⟩ := apart_in hb hs
        have e : a ^ t = (if 0 ≤ a then a else -a) ^ t := by split; rfl; exact (neg_pow_even a t ht).symm
        rw [e]
        have hn : 0 ≤ (if 0 ≤ a then a else -a) := by split <;> omega
        exact ⟨signed_lo (.inr q1) hb h1 q4, signed_hi (.inr ⟨q2, hn⟩) hb h2 q5⟩
      · rw [if_neg ht] at h1 h2
        exact ⟨signed_lo (.inl (by omega)) hb h1 hs.1, signed_hi (.inl (by omega)) hb h2 hs.2⟩
/-- A polynomial at a by b, times (1000 b)^4: k: the power of the head. -/
def pNum (a b : Int) : Nat → List Int → Int
  | _, [] => 0
  | k, n :: p => n * (a ^ k * (1000 * b) ^ (4 - k)) + pNum a b (k + 1) p
theorem added_in {x : Sp} {a b : Int} (hb : 0 < b) (hx : In x a b) : ∀ (p : List Int) (k : Nat) (s t : Sp) (N : Int), k + p.length ≤ 5 → addedF x k s p = .ok t → In s N ((1000 * b) ^ 4) → In t (N + pNum a b k p) ((1000 * b) ^ 4)
  | [], k, s, t, N, _, h, hs => by
    unfold addedF at h
    injection h with h
    subst h
    simpa [pNum] using hs
  | n :: p, k, s, t, N, hk, h, hs => by
    unfold addedF at h
    split at h
    · cases h
    · rename_i r h1
      split at h
      · cases h
      · rename_i u h2
        split at h
        · cases h
        · rename_i v h3
          have hk' : k ≤ 4 := by simp at hk; omega
          have i1 := raised_in hb h1 hx
          have hP : ∀ j : Nat, (0 : Int) ≤ (1000 * b) ^ j := fun j => Int.pow_nonneg (by omega)
          have i2 := prod_in (D := 1) h2 (by omega) (hP k) (in_one (Int.le_refl n) (Int.le_refl n)) i1
          have i3 : In u (n * a ^ k) ((1000 * b) ^ k) := by
            refine in_le (k := 1000) (by decide) ?_
            have e1 : n * (1000 * a ^ k) = n * a ^ k * 1000 := by grind
            have e2 : 1000 * (1 * (1000 * b) ^ k) = (1000 * b) ^ k * 1000 := by grind
            rw [e1, e2] at i2
            exact i2
          have i4 := in_mul (hP (4 - k)) i3
          have e4 : (1000 * b) ^ k * (1000 * b) ^ (4 - k) = (1000 * b) ^ 4 := by rw [← Int.pow_add]; congr 1; omega
          rw [e4] at i4
          have i5 := sum_in h3 hs i4
          have i6 := added_in hb hx p (k + 1) v t _ (by simp at hk; omega) h i5
          have e5 : N + n * a ^ k * (1000 * b) ^ (4 - k) + pNum a b (k + 1) p = N + pNum a b k (n :: p) := by
            simp only [pNum]; rw [Int.mul_assoc n]; omega
          rw [e5] at i6
          exact i6
theorem hNum_pNum (a b : Int) (p : List Int) (h : p.length ≤ 5) : hNum a b p * (1000 * b) ^ (4 - (p.length - 1)) = pNum a b 0 p := by
  match p, h with
  | [], _ => simp [hNum, pNum]
  | [n0], _ => simp [hNum, pNum]
  | [n0, n1], _ => simp [hNum, pNum]; grind
  | [n0, n1, n2], _ => simp [hNum, pNum]; grind
  | [n0, n1, n2, n3], _ => simp [hNum, pNum]; grind
  | [n0, n1, n2, n3, n4], _ => simp [hNum, pNum]; grind
theorem nested_in4 {x s : Sp} {a b : Int} {p : List Int} (hb : 0 < b) (hx : In x a b) (h5 : p.length ≤ 5) (h : nestedF x p = .ok s) : In s (pNum a b 0 p) ((1000 * b) ^ 4) := by
  have i1 := nested_in hb hx p s h
  have i2 := in_mul (k := (1000 * b) ^ (4 - (p.length - 1))) (Int.pow_nonneg (by omega)) i1
  rw [hNum_pNum a b p h5, ← Int.pow_add] at i2
  rw [show p.length - 1 + (4 - (p.length - 1)) = 4 by omega] at i2
  exact i2
end Go.Proofs.Ytmnbgcbiaapldaa
