/- Plain laws, no program in sight: what a number comes to lies in what its span comes to; polynomials, roots, forms, systems, boxes, pieces, what holds, how far apart. -/
import Derived.Test.YtmjcnpolnknkkaaGreatDoorPMath
set_option linter.unusedVariables false
set_option linter.unusedSimpArgs false
namespace Go.Proofs.YtmjcnpolnknkkaaGreatDoor

/-- N by D lies in the span. -/
def In (s : Sp) (N D : Int) : Prop := s.lo * D ≤ N ∧ N ≤ s.hi * D

theorem dn_le (n k : Int) (hk : 0 < k) : dn n k * k ≤ n := Int.ediv_mul_le n (by omega)
theorem le_dn {n k m : Int} (hk : 0 < k) : m ≤ dn n k ↔ m * k ≤ n := Int.le_ediv_iff_mul_le hk
theorem up_ge (n k : Int) (hk : 0 < k) : n ≤ up n k * k := by
  have := dn_le (-n) k hk
  unfold up
  unfold dn at this
  rw [Int.neg_mul]
  omega
theorem up_le {n k m : Int} (hk : 0 < k) : up n k ≤ m ↔ n ≤ m * k := by
  have := le_dn (n := -n) (k := k) (m := -m) hk
  unfold up
  unfold dn at this
  rw [Int.neg_mul] at this
  omega
theorem fits_ok {s t : Sp} (h : fitsF s = .ok t) : t = s ∧ M s.lo ∧ M s.hi := by
  unfold fitsF at h
  split at h
  · injection h with h; exact ⟨h.symm, by assumption⟩
  · cases h
theorem min4_le (a b c d : Int) : min4 a b c d ≤ a ∧ min4 a b c d ≤ b ∧ min4 a b c d ≤ c ∧ min4 a b c d ≤ d := by unfold min4; omega
theorem le_max4 (a b c d : Int) : a ≤ max4 a b c d ∧ b ≤ max4 a b c d ∧ c ≤ max4 a b c d ∧ d ≤ max4 a b c d := by unfold max4; omega
theorem le_min4 {a b c d m : Int} : m ≤ min4 a b c d ↔ m ≤ a ∧ m ≤ b ∧ m ≤ c ∧ m ≤ d := by unfold min4; omega
theorem max4_le {a b c d m : Int} : max4 a b c d ≤ m ↔ a ≤ m ∧ b ≤ m ∧ c ≤ m ∧ d ≤ m := by unfold max4; omega
theorem pdn_le (x y : Int) : pdn x y * 1000 ≤ x * y := dn_le _ _ (by decide)
theorem pup_ge (x y : Int) : x * y ≤ pup x y * 1000 := up_ge _ _ (by decide)
/-- What a product is round. -/
theorem prod_round {s x t : Sp} (h : prodF s x = .ok t) :
    (t.lo * 1000 ≤ s.lo * x.lo ∧ t.lo * 1000 ≤ s.lo * x.hi ∧ t.lo * 1000 ≤ s.hi * x.lo ∧ t.lo * 1000 ≤ s.hi * x.hi) ∧
    (s.lo * x.lo ≤ t.hi * 1000 ∧ s.lo * x.hi ≤ t.hi * 1000 ∧ s.hi * x.lo ≤ t.hi * 1000 ∧ s.hi * x.hi ≤ t.hi * 1000) := by
  obtain ⟨rfl, -⟩ := fits_ok h
  have h1 := min4_le (pdn s.lo x.lo) (pdn s.lo x.hi) (pdn s.hi x.lo) (pdn s.hi x.hi)
  have h2 := le_max4 (pup s.lo x.lo) (pup s.lo x.hi) (pup s.hi x.lo) (pup s.hi x.hi)
  have a1 := pdn_le s.lo x.lo; have a2 := pdn_le s.lo x.hi; have a3 := pdn_le s.hi x.lo; have a4 := pdn_le s.hi x.hi
  have b1 := pup_ge s.lo x.lo; have b2 := pup_ge s.lo x.hi; have b3 := pup_ge s.hi x.lo; have b4 := pup_ge s.hi x.hi
  dsimp only
  generalize s.lo * x.lo = e1 at *; generalize s.lo * x.hi = e2 at *; generalize s.hi * x.lo = e3 at *; generalize s.hi * x.hi = e4 at *
  omega
theorem mul_btw {u v n : Int} (N : Int) (h1 : u ≤ n) (h2 : n ≤ v) : (N * u ≤ N * n ∧ N * n ≤ N * v) ∨ (N * v ≤ N * n ∧ N * n ≤ N * u) := by
  rcases Int.le_total 0 N with h | h
  · exact .inl ⟨Int.mul_le_mul_of_nonneg_left h1 h, Int.mul_le_mul_of_nonneg_left h2 h⟩
  · exact .inr ⟨Int.mul_le_mul_of_nonpos_left h h2, Int.mul_le_mul_of_nonpos_left h h1⟩
/-- A product of two numbers between bounds lies between what bounds the four corners. -/
theorem corner_btw {A B N u v n L H : Int} (h1 : A ≤ N) (h2 : N ≤ B) (h3 : u ≤ n) (h4 : n ≤ v)
    (hL : L ≤ A * u ∧ L ≤ A * v ∧ L ≤ B * u ∧ L ≤ B * v) (hH : A * u ≤ H ∧ A * v ≤ H ∧ B * u ≤ H ∧ B * v ≤ H) : L ≤ N * n ∧ N * n ≤ H := by
  have k1 := mul_btw N h3 h4
  have k2 := mul_btw u h1 h2
  have k3 := mul_btw v h1 h2
  rw [Int.mul_comm u A, Int.mul_comm u B, Int.mul_comm u N] at k2
  rw [Int.mul_comm v A, Int.mul_comm v B, Int.mul_comm v N] at k3
  omega
theorem mul4 (a b c d : Int) : (a * b) * (c * d) = (a * c) * (b * d) := by
  rw [Int.mul_assoc, Int.mul_assoc, ← Int.mul_assoc b c d, Int.mul_comm b c, Int.mul_assoc c b d]
theorem prod_in {s x t : Sp} {N D a b : Int} (h : prodF s x = .ok t) (hD : 0 ≤ D) (hb : 0 ≤ b) (h1 : In s N D) (h2 : In x a b) : In t (N * a) (1000 * (D * b)) := by
  obtain ⟨⟨a1, a2, a3, a4⟩, ⟨b1, b2, b3, b4⟩⟩ := prod_round h
  have hd : 0 ≤ D * b := Int.mul_nonneg hD hb
  have mono : ∀ {p q : Int}, p ≤ q → p * (D * b) ≤ q * (D * b) := fun h => Int.mul_le_mul_of_nonneg_right h hd
  have := corner_btw (L := t.lo * 1000 * (D * b)) (H := t.hi * 1000 * (D * b)) h1.1 h1.2 h2.1 h2.2
    (by rw [mul4 s.lo D x.lo b, mul4 s.lo D x.hi b, mul4 s.hi D x.lo b, mul4 s.hi D x.hi b]; exact ⟨mono a1, mono a2, mono a3, mono a4⟩)
    (by rw [mul4 s.lo D x.lo b, mul4 s.lo D x.hi b, mul4 s.hi D x.lo b, mul4 s.hi D x.hi b]; exact ⟨mono b1, mono b2, mono b3, mono b4⟩)
  have e : ∀ z : Int, z * (1000 * (D * b)) = z * 1000 * (D * b) := fun z => (Int.mul_assoc _ _ _).symm
  unfold In
  rw [e, e]
  exact this
theorem sum_in {s q t : Sp} {N N' D : Int} (h : sumF s q = .ok t) (h1 : In s N D) (h2 : In q N' D) : In t (N + N') D := by
  obtain ⟨rfl, -⟩ := fits_ok h
  unfold In at *
  dsimp only
  rw [Int.add_mul, Int.add_mul]
  omega
theorem rest_in {s q t : Sp} {N N' D : Int} (h : restF s q = .ok t) (h1 : In s N D) (h2 : In q N' D) : In t (N - N') D := by
  obtain ⟨rfl, -⟩ := fits_ok h
  unfold In at *
  dsimp only
  rw [Int.sub_mul, Int.sub_mul]
  omega
theorem in_alone (n D : Int) : In ⟨n, n⟩ (n * D) D := ⟨Int.le_refl _, Int.le_refl _⟩
theorem in_one {s : Sp} {n : Int} (h1 : s.lo ≤ n) (h2 : n ≤ s.hi) : In s n 1 := ⟨by rw [Int.mul_one]; exact h1, by rw [Int.mul_one]; exact h2⟩
theorem in_mul {s : Sp} {N D k : Int} (hk : 0 ≤ k) (h : In s N D) : In s (N * k) (D * k) := by
  have e : ∀ z : Int, z * (D * k) = z * D * k := fun z => (Int.mul_assoc _ _ _).symm
  unfold In at *
  rw [e, e]
  exact ⟨Int.mul_le_mul_of_nonneg_right h.1 hk, Int.mul_le_mul_of_nonneg_right h.2 hk⟩
theorem in_com {a b t : Sp} {N D : Int} (hD : 0 ≤ D) (h : comF a b = .ok t) (h1 : In a N D) (h2 : In b N D) : In t N D := by
  unfold comF at h
  split at h
  · cases h
  · injection h with h
    subst h
    unfold In at *
    dsimp only
    constructor
    · rcases Int.le_total a.lo b.lo with e | e
      · rw [Int.max_eq_right e]; exact h2.1
      · rw [Int.max_eq_left e]; exact h1.1
    · rcases Int.le_total a.hi b.hi with e | e
      · rw [Int.min_eq_left e]; exact h1.2
      · rw [Int.min_eq_right e]; exact h2.2
/-- Horner's way at a by b, by so many thousandths' powers more: the number over (1000 b)^(length - 1). -/
def hNum (a b : Int) : List Int → Int
  | [] => 0
  | [n] => n
  | n :: m :: p => hNum a b (m :: p) * a + n * (1000 * b) ^ (p.length + 1)
theorem nested_in {x : Sp} {a b : Int} (hb : 0 < b) (hx : In x a b) : ∀ (p : List Int) (s : Sp), nestedF x p = .ok s → In s (hNum a b p) ((1000 * b) ^ (p.length - 1))
  | [], s, h => by
    unfold nestedF at h
    injection h with h
    subst h
    exact ⟨by simp [hNum], by simp [hNum]⟩
  | [n], s, h => by
    unfold nestedF at h
    injection h with h
    subst h
    exact ⟨by simp [hNum], by simp [hNum]⟩
  | n :: m :: p, s, h => by
    unfold nestedF at h
    split at h
    · cases h
    · rename_i s1 h1
      split at h
      · cases h
      · rename_i t h2
        have ih := nested_in hb hx (m :: p) s1 h1
        have hp : (0 : Int) ≤ (1000 * b) ^ (p.length) := Int.pow_nonneg (by omega)
        have k1 := prod_in h2 (by simpa using hp) (by omega) ih hx
        have e : 1000 * ((1000 * b) ^ ((m :: p).length - 1) * b) = (1000 * b) ^ (p.length + 1) := by
          simp only [List.length_cons, Nat.add_sub_cancel]
          rw [Int.pow_succ, ← Int.mul_assoc, Int.mul_comm 1000, Int.mul_assoc]
        rw [e] at k1
        have k2 := sum_in h k1 (in_alone n _)
        simpa [hNum] using k2
theorem in_le {s : Sp} {N D k : Int} (hk : 0 < k) (h : In s (N * k) (D * k)) : In s N D := by
  have e : ∀ z : Int, z * (D * k) = z * D * k := fun z => (Int.mul_assoc _ _ _).symm
  unfold In at *
  rw [e, e] at h
  exact ⟨Int.le_of_mul_le_mul_right h.1 hk, Int.le_of_mul_le_mul_right h.2 hk⟩
theorem pdn_nonneg {x y : Int} (hx : 0 ≤ x) (hy : 0 ≤ y) : 0 ≤ pdn x y := by
  unfold pdn dn
  exact Int.ediv_nonneg (Int.mul_nonneg hx hy) (by decide)
theorem pup_nonneg {x y : Int} (hx : 0 ≤ x) (hy : 0 ≤ y) : 0 ≤ pup x y := by
  have := pup_ge x y
  have := Int.mul_nonneg hx hy
  omega
/-- Again and again: the power of a number a by b. -/
theorem again_in {n a b : Int} (hn : 0 ≤ n) (ha : 0 ≤ a) (hb : 0 < b) : ∀ (t : Nat) (lo hi : Int), againF n t = .ok (lo, hi) →
    0 ≤ lo ∧ 0 ≤ hi ∧ (n * b ≤ a → lo * (1000 * b) ^ t ≤ 1000 * a ^ t) ∧ (a ≤ n * b → 1000 * a ^ t ≤ hi * (1000 * b) ^ t)
  | 0, lo, hi, h => by
    simp [againF] at h
    obtain ⟨rfl, rfl⟩ := h
    simp
  | t + 1, lo, hi, h => by
    unfold againF at h
    split at h
    · cases h
    · rename_i l u hq
      split at h
      · injection h with h
        injection h with h1 h2
        subst h1 h2
        obtain ⟨i1, i2, i3, i4⟩ := again_in hn ha hb t l u hq
        have hP : (0 : Int) ≤ (1000 * b) ^ t := Int.pow_nonneg (by omega)
        have hA : (0 : Int) ≤ a ^ t := Int.pow_nonneg ha
        have p1 := pdn_le l n
        have p2 := pup_ge u n
        refine ⟨pdn_nonneg i1 hn, pup_nonneg i2 hn, fun h => ?_, fun h => ?_⟩
        · have h3 := i3 h
          have e1 : pdn l n * (1000 * b) ^ (t + 1) = (pdn l n * 1000) * (b * (1000 * b) ^ t) := by rw [Int.pow_succ]; grind
          have e2 : 1000 * a ^ (t + 1) = (1000 * a ^ t) * a := by rw [Int.pow_succ, Int.mul_assoc]
          rw [e1, e2]
          have k1 : (pdn l n * 1000) * (b * (1000 * b) ^ t) ≤ (l * n) * (b * (1000 * b) ^ t) := Int.mul_le_mul_of_nonneg_right p1 (Int.mul_nonneg (by omega) hP)
          have k2 : (l * (1000 * b) ^ t) * (n * b) ≤ (l * (1000 * b) ^ t) * a := Int.mul_le_mul_of_nonneg_left h (Int.mul_nonneg i1 hP)
          have k3 : (l * (1000 * b) ^ t) * a ≤ (1000 * a ^ t) * a := Int.mul_le_mul_of_nonneg_right h3 ha
          have e3 : (l * n) * (b * (1000 * b) ^ t) = (l * (1000 * b) ^ t) * (n * b) := by grind
          omega
        · have h4 := i4 h
          have e1 : pup u n * (1000 * b) ^ (t + 1) = (pup u n * 1000) * (b * (1000 * b) ^ t) := by rw [Int.pow_succ]; grind
          have e2 : 1000 * a ^ (t + 1) = (1000 * a ^ t) * a := by rw [Int.pow_succ, Int.mul_assoc]
          rw [e1, e2]
          have k1 : (u * n) * (b * (1000 * b) ^ t) ≤ (pup u n * 1000) * (b * (1000 * b) ^ t) := Int.mul_le_mul_of_nonneg_right p2 (Int.mul_nonneg (by omega) hP)
          have k2 : (u * (1000 * b) ^ t) * a ≤ (u * (1000 * b) ^ t) * (n * b) := Int.mul_le_mul_of_nonneg_left h (Int.mul_nonneg i2 hP)
          have k3 : (1000 * a ^ t) * a ≤ (u * (1000 * b) ^ t) * a := Int.mul_le_mul_of_nonneg_right h4 ha
          have e3 : (u * n) * (b * (1000 * b) ^ t) = (u * (1000 * b) ^ t) * (n * b) := by grind
          omega
      · cases h
theorem neg_pow_odd (a : Int) (t : Nat) (h : t % 2 = 1) : (-a) ^ t = -(a ^ t) := by
  obtain ⟨k, rfl⟩ : ∃ k, t = 2 * k + 1 := ⟨t / 2, by omega⟩
  rw [Int.pow_succ, Int.pow_succ, Int.pow_mul, Int.pow_mul]
  rw [show (-a) ^ 2 = a ^ 2 by grind]
  grind
theorem neg_pow_even (a : Int) (t : Nat) (h : t % 2 = 0) : (-a) ^ t = a ^ t := by
  obtain ⟨k, rfl⟩ : ∃ k, t = 2 * k := ⟨t / 2, by omega⟩
  rw [Int.pow_mul, Int.pow_mul, show (-a) ^ 2 = a ^ 2 by grind]
/-- signed, from below and from above, where the number is no less than, no more than a by b. -/
theorem signed_lo {n a b : Int} {t : Nat} {p : Int × Int} (ht : t % 2 = 1 ∨ 0 ≤ n) (hb : 0 < b) (h : signedF n t = .ok p) (hn : n * b ≤ a) : p.1 * (1000 * b) ^ t ≤ 1000 * a ^ t := by
  unfold signedF at h
  split at h
  · rename_i h0
    have ha : 0 ≤ a := Int.le_trans (Int.mul_nonneg h0 (by omega)) hn
    exact (again_in h0 ha hb t p.1 p.2 h).2.2.1 hn
  · rename_i h0
    have ht : t % 2 = 1 := by omega
    split at h
    · cases h
    · rename_i l u hq
      injection h with h
      subst h
      dsimp only
      rcases Int.le_total 0 a with ha | ha
      · have hh := again_in (a := 0) (b := b) (show 0 ≤ -n by omega) (Int.le_refl _) hb t l u hq
        have hp : (0 : Int) ≤ u * (1000 * b) ^ t := Int.mul_nonneg hh.2.1 (Int.pow_nonneg (by omega))
        have hA : (0 : Int) ≤ a ^ t := Int.pow_nonneg ha
        rw [Int.neg_mul]
        omega
      · have hh := again_in (a := -a) (b := b) (show 0 ≤ -n by omega) (by omega) hb t l u hq
        have := hh.2.2.2 (by rw [Int.neg_mul]; omega)
        rw [neg_pow_odd a t ht] at this
        rw [Int.neg_mul]
        omega
theorem signed_hi {n a b : Int} {t : Nat} {p : Int × Int} (ht : t % 2 = 1 ∨ (0 ≤ n ∧ 0 ≤ a)) (hb : 0 < b) (h : signedF n t = .ok p) (hn : a ≤ n * b) : 1000 * a ^ t ≤ p.2 * (1000 * b) ^ t := by
  unfold signedF at h
  split at h
  · rename_i h0
    rcases Int.le_total 0 a with ha | ha
    · exact (again_in h0 ha hb t p.1 p.2 h).2.2.2 hn
    · by_cases ht1 : t % 2 = 1
      · have hh := again_in (a := 0) (b := b) h0 (Int.le_refl _) hb t p.1 p.2 h
        have hp : (0 : Int) ≤ p.2 * (1000 * b) ^ t := Int.mul_nonneg hh.2.1 (Int.pow_nonneg (by omega))
        have hA : (0 : Int) ≤ (-a) ^ t := Int.pow_nonneg (by omega)
        rw [neg_pow_odd a t ht1] at hA
        omega
      · have : a = 0 := by omega
        subst this
        exact (again_in h0 (Int.le_refl _) hb t p.1 p.2 h).2.2.2 hn
  · rename_i h0
    have ht : t % 2 = 1 := by omega
    split at h
    · cases h
    · rename_i l u hq
      injection h with h
      subst h
      dsimp only
      have hnb : n * b ≤ 0 := Int.mul_nonpos_of_nonpos_of_nonneg (by omega) (by omega)
      have hh := again_in (a := -a) (b := b) (show 0 ≤ -n by omega) (by omega) hb t l u hq
      have := hh.2.2.1 (by rw [Int.neg_mul]; omega)
      rw [neg_pow_odd a t ht] at this
      rw [Int.neg_mul]
      omega
theorem apart_in {s : Sp} {a b : Int} (hb : 0 < b) (h : In s a b) : 0 ≤ (apartF s).1 ∧ 0 ≤ (apartF s).2 ∧ ((apartF s).1 * b ≤ a ∨ (apartF s).1 * b ≤ -a) ∧ (apartF s).1 * b ≤ (if 0 ≤ a then a else -a) ∧ (if 0 ≤ a then a else -a) ≤ (apartF s).2 * b := by
  obtain ⟨h1, h2⟩ := h
  unfold apartF zeroF
  have k0 : s.lo * b ≤ s.hi * b := Int.le_trans h1 h2
  have k1 : s.lo ≤ s.hi := Int.le_of_mul_le_mul_right k0 hb
  have pos : ∀ {q : Int}, 0 ≤ q → 0 ≤ q * b := fun h => Int.mul_nonneg h (by omega)
  have neg : ∀ {q : Int}, q ≤ 0 → q * b ≤ 0 := fun h => Int.mul_nonpos_of_nonpos_of_nonneg h (by omega)
  have e1 : (-s.lo) * b = -(s.lo * b) := Int.neg_mul _ _
  have e2 : (-s.hi) * b = -(s.hi * b) := Int.neg_mul _ _
  dsimp only
  rcases Int.le_total s.lo 0 with a1 | a1 <;> rcases Int.le_total 0 s.hi with a2 | a2
  · have z : (decide (s.lo ≤ 0) && decide (0 ≤ s.hi)) = true := by simp [a1, a2]
    rw [z]
    simp only [if_true, Int.zero_mul]
    have n1 := neg a1; have n2 := pos a2
    rcases Int.le_total s.hi (-s.lo) with c | c
    · rw [Int.max_eq_right c]
      have : s.hi * b ≤ -s.lo * b := Int.mul_le_mul_of_nonneg_right c (by omega)
      refine ⟨by omega, by omega, by omega, ?_, ?_⟩ <;> split <;> omega
    · rw [Int.max_eq_left c]
      have : -s.lo * b ≤ s.hi * b := Int.mul_le_mul_of_nonneg_right c (by omega)
      refine ⟨by omega, by omega, by omega, ?_, ?_⟩ <;> split <;> omega
  · rcases Int.lt_or_eq_of_le a2 with a3 | a3
    · have z : (decide (s.lo ≤ 0) && decide (0 ≤ s.hi)) = false := by simp; omega
      rw [z]
      simp only [Bool.false_eq_true, if_false]
      have n1 := neg a1; have n2 := neg a2
      rw [Int.max_eq_right (show s.lo ≤ -s.hi by omega), Int.max_eq_right (show s.hi ≤ -s.lo by omega)]
      refine ⟨by omega, by omega, by omega, ?_, ?_⟩ <;> split <;> omega
    · have z : (decide (s.lo ≤ 0) && decide (0 ≤ s.hi)) = true := by simp; omega
      rw [z]
      simp only [if_true, Int.zero_mul]
      have n1 := neg a1; have n2 := pos (show 0 ≤ s.hi by omega)
      rw [Int.max_eq_right (show s.hi ≤ -s.lo by omega)]
      have : s.hi * b ≤ -s.lo * b := Int.mul_le_mul_of_nonneg_right (by omega) (by omega)
      refine ⟨by omega, by omega, by omega, ?_, ?_⟩ <;> split <;> omega
  · have n1 := pos a1; have n2 := pos a2
    by_cases c0 : s.lo = 0
    · have z : (decide (s.lo ≤ 0) && decide (0 ≤ s.hi)) = true := by simp; omega
      rw [z]
      simp only [if_true, Int.zero_mul]
      rw [Int.max_eq_left (show -s.lo ≤ s.hi by omega)]
      refine ⟨by omega, by omega, by omega, ?_, ?_⟩ <;> split <;> omega
    · have z : (decide (s.lo ≤ 0) && decide (0 ≤ s.hi)) = false := by simp; omega
      rw [z]
      simp only [Bool.false_eq_true, if_false]
      rw [Int.max_eq_left (show -s.hi ≤ s.lo by omega), Int.max_eq_left (show -s.lo ≤ s.hi by omega)]
      refine ⟨by omega, by omega, by omega, ?_, ?_⟩ <;> split <;> omega
  · have : s.lo = 0 := by omega
    have : s.hi = 0 := by omega
    have n1 := pos a1; have n2 := neg a2
    have z : (decide (s.lo ≤ 0) && decide (0 ≤ s.hi)) = true := by simp; omega
    rw [z]
    simp only [if_true, Int.zero_mul]
    rw [Int.max_eq_left (show -s.lo ≤ s.hi by omega)]
    refine ⟨by omega, by omega, by omega, ?_, ?_⟩ <;> split <;> omega
theorem raised_in {s r : Sp} {a b : Int} {t : Nat} (hb : 0 < b) (h : raisedF s t = .ok r) (hs : In s a b) : In r (1000 * a ^ t) ((1000 * b) ^ t) := by
  unfold raisedF raisedG at h
  split at h
  · cases h
  · rename_i p1 h1
    split at h
    · cases h
    · rename_i p2 h2
      injection h with h
      subst h
      unfold In
      dsimp only
      by_cases ht : t % 2 = 0
      · rw [if_pos ht] at h1 h2
        obtain ⟨q1, q2, -, q4, q5⟩ := apart_in hb hs
        have e : a ^ t = (if 0 ≤ a then a else -a) ^ t := by split; rfl; exact (neg_pow_even a t ht).symm
        rw [e]
        have hn : 0 ≤ (if 0 ≤ a then a else -a) := by split <;> omega
        exact ⟨signed_lo (.inr q1) hb h1 q4, signed_hi (.inr ⟨q2, hn⟩) hb h2 q5⟩
      · rw [if_neg ht] at h1 h2
        exact ⟨signed_lo (.inl (by omega)) hb h1 hs.1, signed_hi (.inl (by omega)) hb h2 hs.2⟩
/-- A polynomial at a by b, times (1000 b)^4: k: the power of the head. -/
def pNum (a b : Int) : Nat → List Int → Int
  | _, [] => 0
  | k, n :: p => n * (a ^ k * (1000 * b) ^ (4 - k)) + pNum a b (k + 1) p
theorem added_in {x : Sp} {a b : Int} (hb : 0 < b) (hx : In x a b) : ∀ (p : List Int) (k : Nat) (s t : Sp) (N : Int), k + p.length ≤ 5 → addedF x k s p = .ok t → In s N ((1000 * b) ^ 4) → In t (N + pNum a b k p) ((1000 * b) ^ 4)
  | [], k, s, t, N, _, h, hs => by
    unfold addedF at h
    injection h with h
    subst h
    simpa [pNum] using hs
  | n :: p, k, s, t, N, hk, h, hs => by
    unfold addedF at h
    split at h
    · cases h
    · rename_i r h1
      split at h
      · cases h
      · rename_i u h2
        split at h
        · cases h
        · rename_i v h3
          have hk' : k ≤ 4 := by simp at hk; omega
          have i1 := raised_in hb h1 hx
          have hP : ∀ j : Nat, (0 : Int) ≤ (1000 * b) ^ j := fun j => Int.pow_nonneg (by omega)
          have i2 := prod_in (D := 1) h2 (by omega) (hP k) (in_one (Int.le_refl n) (Int.le_refl n)) i1
          have i3 : In u (n * a ^ k) ((1000 * b) ^ k) := by
            refine in_le (k := 1000) (by decide) ?_
            have e1 : n * (1000 * a ^ k) = n * a ^ k * 1000 := by grind
            have e2 : 1000 * (1 * (1000 * b) ^ k) = (1000 * b) ^ k * 1000 := by grind
            rw [e1, e2] at i2
            exact i2
          have i4 := in_mul (hP (4 - k)) i3
          have e4 : (1000 * b) ^ k * (1000 * b) ^ (4 - k) = (1000 * b) ^ 4 := by rw [← Int.pow_add]; congr 1; omega
          rw [e4] at i4
          have i5 := sum_in h3 hs i4
          have i6 := added_in hb hx p (k + 1) v t _ (by simp at hk; omega) h i5
          have e5 : N + n * a ^ k * (1000 * b) ^ (4 - k) + pNum a b (k + 1) p = N + pNum a b k (n :: p) := by
            simp only [pNum]; rw [Int.mul_assoc n]; omega
          rw [e5] at i6
          exact i6
theorem hNum_pNum (a b : Int) (p : List Int) (h : p.length ≤ 5) : hNum a b p * (1000 * b) ^ (4 - (p.length - 1)) = pNum a b 0 p := by
  match p, h with
  | [], _ => simp [hNum, pNum]
  | [n0], _ => simp [hNum, pNum]
  | [n0, n1], _ => simp [hNum, pNum]; grind
  | [n0, n1, n2], _ => simp [hNum, pNum]; grind
  | [n0, n1, n2, n3], _ => simp [hNum, pNum]; grind
  | [n0, n1, n2, n3, n4], _ => simp [hNum, pNum]; grind
theorem nested_in4 {x s : Sp} {a b : Int} {p : List Int} (hb : 0 < b) (hx : In x a b) (h5 : p.length ≤ 5) (h : nestedF x p = .ok s) : In s (pNum a b 0 p) ((1000 * b) ^ 4) := by
  have i1 := nested_in hb hx p s h
  have i2 := in_mul (k := (1000 * b) ^ (4 - (p.length - 1))) (Int.pow_nonneg (by omega)) i1
  rw [hNum_pNum a b p h5, ← Int.pow_add] at i2
  rw [show p.length - 1 + (4 - (p.length - 1)) = 4 by omega] at i2
  exact i2
/-- What a polynomial is at n, by 10^12. -/
abbrev exP (n : Int) (p : List Int) : Int := pNum n 1 0 p
theorem slopeG_map : ∀ (p d : List Int) (k : Nat), slopeG k p = .ok d → d = p.mapIdx fun i n => n * ((k + i : Nat) : Int)
  | [], d, k, h => by
    unfold slopeG at h
    injection h with h
    simp [h.symm]
  | n :: p, d, k, h => by
    unfold slopeG at h
    split at h
    · split at h
      · cases h
      · rename_i l hl
        injection h with h
        subst h
        rw [slopeG_map p l (k + 1) hl, List.mapIdx_cons]
        simp only [Nat.add_zero]
        congr 1
        refine List.mapIdx_eq_mapIdx_iff.2 fun i hi => ?_
        rw [show k + 1 + i = k + (i + 1) by omega]
    · cases h
/-- Simpson's rule is exact here. -/
theorem slope_law {p d : List Int} (h0 : 0 < p.length) (h5 : p.length ≤ 5) (h : slopeF p = .ok d) (n m : Int) :
    24000 * (exP n p - exP m p) = (n - m) * (4 * pNum n 1 0 d + pNum (n + m) 2 0 d + 4 * pNum m 1 0 d) := by
  unfold slopeF at h
  match p, h0, h5 with
  | [c0], _, _ =>
    simp at h
    subst h
    simp [exP, pNum]
  | [c0, c1], _, _ =>
    simp only [List.length_cons, List.length_nil, List.tail_cons] at h
    rw [if_neg (by decide)] at h
    have := slopeG_map _ _ _ h
    subst this
    simp [exP, pNum, List.mapIdx_cons]
    grind
  | [c0, c1, c2], _, _ =>
    simp only [List.length_cons, List.length_nil, List.tail_cons] at h
    rw [if_neg (by decide)] at h
    have := slopeG_map _ _ _ h
    subst this
    simp [exP, pNum, List.mapIdx_cons]
    grind
  | [c0, c1, c2, c3], _, _ =>
    simp only [List.length_cons, List.length_nil, List.tail_cons] at h
    rw [if_neg (by decide)] at h
    have := slopeG_map _ _ _ h
    subst this
    simp [exP, pNum, List.mapIdx_cons]
    grind
  | [c0, c1, c2, c3, c4], _, _ =>
    simp only [List.length_cons, List.length_nil, List.tail_cons] at h
    rw [if_neg (by decide)] at h
    have := slopeG_map _ _ _ h
    subst this
    simp [exP, pNum, List.mapIdx_cons]
    grind
theorem slope_len {p d : List Int} (h5 : p.length ≤ 5) (h : slopeF p = .ok d) : d.length ≤ 5 := by
  unfold slopeF at h
  split at h
  · injection h with h
    subst h
    simp
  · have := slopeG_map _ _ _ h
    subst this
    simp
    omega
/-- The slope between two numbers of a span, by 24 * 10^12: it lies in the slope over the span. -/
theorem steep_in {p : List Int} {x d : Sp} {n m : Int} (h0 : 0 < p.length) (h5 : p.length ≤ 5) (h : steepF p x = .ok d) (hn : x.lo ≤ n ∧ n ≤ x.hi) (hm : x.lo ≤ m ∧ m ≤ x.hi) :
    ∃ T, 24000 * (exP n p - exP m p) = (n - m) * T ∧ In d T 24000000000000 := by
  unfold steepF at h
  split at h
  · cases h
  · rename_i l hl
    have hl5 := slope_len h5 hl
    have i1 := nested_in4 (a := n) (b := 1) (by decide) (in_one hn.1 hn.2) hl5 h
    have i2 := nested_in4 (a := m) (b := 1) (by decide) (in_one hm.1 hm.2) hl5 h
    have i3 := nested_in4 (a := n + m) (b := 2) (x := x) (by decide) ⟨by omega, by omega⟩ hl5 h
    refine ⟨_, slope_law h0 h5 hl n m, ?_⟩
    unfold In at *
    simp only [Int.mul_one, show (1000 * 2 : Int) ^ 4 = 16000000000000 by decide, show (1000 : Int) ^ 4 = 1000000000000 by decide] at i1 i2 i3
    omega
theorem half_in {x : Sp} (h : x.lo ≤ x.hi) : x.lo ≤ halfF x ∧ halfF x ≤ x.hi := by
  unfold halfF dn
  omega
theorem nested_at {x s : Sp} {p : List Int} {n : Int} (h5 : p.length ≤ 5) (h : nestedF x p = .ok s) (hn : x.lo ≤ n ∧ n ≤ x.hi) : In s (exP n p) 1000000000000 := by
  have := nested_in4 (a := n) (b := 1) (by decide) (in_one hn.1 hn.2) h5 h
  simpa using this
theorem added_at {x s : Sp} {p : List Int} {n : Int} (h5 : p.length ≤ 5) (h : addedF x 0 ⟨0, 0⟩ p = .ok s) (hn : x.lo ≤ n ∧ n ≤ x.hi) : In s (exP n p) 1000000000000 := by
  have := added_in (a := n) (b := 1) (by decide) (in_one hn.1 hn.2) p 0 ⟨0, 0⟩ s 0 (by omega) h ⟨by simp, by simp⟩
  simpa using this
theorem around_at {x s : Sp} {p : List Int} {n : Int} (h0 : 0 < p.length) (h5 : p.length ≤ 5) (h : aroundF p x = .ok s) (hn : x.lo ≤ n ∧ n ≤ x.hi) : In s (exP n p) 1000000000000 := by
  have hm := half_in (x := x) (by omega)
  unfold aroundF at h
  split at h
  · cases h
  · rename_i at_ h1
    split at h
    · cases h
    · rename_i d h2
      split at h
      · cases h
      · rename_i far h3
        split at h
        · cases h
        · rename_i df h4
          generalize hM : halfF x = m at *
          have i1 := nested_at (n := m) h5 h1 ⟨by dsimp only; omega, by dsimp only; omega⟩
          obtain ⟨T, e, i2⟩ := steep_in h0 h5 h2 hn hm
          have i3 : In far (n - m) 1 := rest_in h3 (in_one hn.1 hn.2) (by have := in_alone m 1; simpa using this)
          have i4 := prod_in h4 (by decide) (by decide) i2 i3
          have i5 : In df (exP n p - exP m p) 1000000000000 := by
            refine in_le (k := 24000) (by decide) ?_
            rw [show T * (n - m) = (exP n p - exP m p) * 24000 by rw [Int.mul_comm T, ← e]; omega] at i4
            simpa using i4
          have i6 := sum_in h i1 i5
          rw [show exP m p + (exP n p - exP m p) = exP n p by omega] at i6
          exact i6
theorem tight_at {x s : Sp} {p : List Int} {n : Int} (h0 : 0 < p.length) (h5 : p.length ≤ 5) (h : tightF p x = .ok s) (hn : x.lo ≤ n ∧ n ≤ x.hi) : In s (exP n p) 1000000000000 := by
  unfold tightF at h
  split at h
  · cases h
  · rename_i a h1
    split at h
    · cases h
    · rename_i b h2
      split at h
      · cases h
      · rename_i ab h3
        split at h
        · cases h
        · rename_i c h4
          exact in_com (by decide) h (in_com (by decide) h3 (nested_at h5 h1 hn) (added_at h5 h2 hn)) (around_at h0 h5 h4 hn)
/-- Where the slope is not below 0 a greater number gives no less; where it is not above 0, no more. -/
theorem way_up {p : List Int} {x d : Sp} {n m : Int} (h0 : 0 < p.length) (h5 : p.length ≤ 5) (h : steepF p x = .ok d) (hd : 0 ≤ d.lo) (hn : x.lo ≤ n ∧ n ≤ x.hi) (hm : x.lo ≤ m ∧ m ≤ x.hi) (hnm : m ≤ n) : exP m p ≤ exP n p := by
  obtain ⟨T, e, i⟩ := steep_in h0 h5 h hn hm
  have hT : 0 ≤ T := by have := i.1; omega
  have : 0 ≤ (n - m) * T := Int.mul_nonneg (by omega) hT
  omega
theorem way_down {p : List Int} {x d : Sp} {n m : Int} (h0 : 0 < p.length) (h5 : p.length ≤ 5) (h : steepF p x = .ok d) (hd : d.hi ≤ 0) (hn : x.lo ≤ n ∧ n ≤ x.hi) (hm : x.lo ≤ m ∧ m ≤ x.hi) (hnm : m ≤ n) : exP n p ≤ exP m p := by
  obtain ⟨T, e, i⟩ := steep_in h0 h5 h hn hm
  have hT : T ≤ 0 := by have := i.2; omega
  have : (n - m) * T ≤ 0 := Int.mul_nonpos_of_nonneg_of_nonpos (by omega) hT
  omega
theorem wayF_cases (d : Sp) : (wayF d = 1 ∧ 0 ≤ d.lo) ∨ (wayF d = -1 ∧ d.hi ≤ 0 ∧ ¬ 0 ≤ d.lo) ∨ (wayF d = 0 ∧ ¬ 0 ≤ d.lo ∧ ¬ d.hi ≤ 0) := by
  unfold wayF
  by_cases h1 : 0 ≤ d.lo
  · simp [h1]
  · by_cases h2 : d.hi ≤ 0
    · simp [h1, h2]
    · simp [h1, h2]
theorem over_at {x s : Sp} {p : List Int} {n : Int} (h0 : 0 < p.length) (h5 : p.length ≤ 5) (h : overF p x = .ok s) (hn : x.lo ≤ n ∧ n ≤ x.hi) : In s (exP n p) 1000000000000 := by
  unfold overF at h
  split at h
  · cases h
  · rename_i best h1
    split at h
    · cases h
    · rename_i d h2
      rcases wayF_cases d with ⟨e, hd⟩ | ⟨e, hd, -⟩ | ⟨e, -, -⟩
      · rw [e, if_neg (by decide)] at h
        simp only [show ¬ (1 : Int) = -1 by decide, if_false] at h
        split at h
        · cases h
        · rename_i a h3
          split at h
          · cases h
          · rename_i b h4
            injection h with h
            subst h
            have i1 := nested_at (n := x.lo) h5 h3 ⟨Int.le_refl _, Int.le_refl _⟩
            have i2 := nested_at (n := x.hi) h5 h4 ⟨Int.le_refl _, Int.le_refl _⟩
            have k1 := way_up h0 h5 h2 hd hn (show x.lo ≤ x.lo ∧ x.lo ≤ x.hi by omega) hn.1
            have k2 := way_up h0 h5 h2 hd (show x.lo ≤ x.hi ∧ x.hi ≤ x.hi by omega) hn hn.2
            unfold In at *
            dsimp only
            omega
      · rw [e, if_neg (by decide)] at h
        simp only [if_true] at h
        split at h
        · cases h
        · rename_i a h3
          split at h
          · cases h
          · rename_i b h4
            injection h with h
            subst h
            have i1 := nested_at (n := x.hi) h5 h3 ⟨Int.le_refl _, Int.le_refl _⟩
            have i2 := nested_at (n := x.lo) h5 h4 ⟨Int.le_refl _, Int.le_refl _⟩
            have k1 := way_down h0 h5 h2 hd hn (show x.lo ≤ x.lo ∧ x.lo ≤ x.hi by omega) hn.1
            have k2 := way_down h0 h5 h2 hd (show x.lo ≤ x.hi ∧ x.hi ≤ x.hi by omega) hn hn.2
            unfold In at *
            dsimp only
            omega
      · rw [e, if_pos rfl] at h
        injection h with h
        subst h
        exact tight_at h0 h5 h1 hn
/-- Spans from lo to hi, one behind the other, none wider than least. -/
def Chain (least : Int) : Int → Int → List Sp → Prop
  | lo, hi, [] => lo ≤ hi
  | lo, hi, s :: l => lo ≤ s.lo ∧ s.lo ≤ s.hi ∧ s.hi - s.lo ≤ least ∧ Chain least s.hi hi l
theorem Chain.low {least : Int} : ∀ {l : List Sp} {lo lo' hi : Int}, Chain least lo hi l → lo' ≤ lo → Chain least lo' hi l
  | [], _, _, _, h, h' => Int.le_trans h' h
  | _ :: _, _, _, _, h, h' => ⟨Int.le_trans h' h.1, h.2⟩
theorem Chain.le {least : Int} : ∀ {l : List Sp} {lo hi : Int}, Chain least lo hi l → lo ≤ hi
  | [], _, _, h => h
  | _ :: _, _, _, h => by have := h.2.2.2.le; have := h.1; have := h.2.1; omega
theorem Chain.append {least : Int} : ∀ {l l' : List Sp} {lo m hi : Int}, Chain least lo m l → Chain least m hi l' → Chain least lo hi (l ++ l')
  | [], _, _, _, _, h, h' => h'.low h
  | _ :: _, _, _, _, _, h, h' => ⟨h.1, h.2.1, h.2.2.1, h.2.2.2.append h'⟩
theorem Chain.next {least : Int} : ∀ {l : List Sp} {lo hi : Int}, Chain least lo hi l → ∀ i, i + 1 < l.length → (l[i]?.getD ⟨0, 0⟩).hi ≤ (l[i + 1]?.getD ⟨0, 0⟩).lo
  | [], _, _, _, i, hi => by simp at hi
  | [t], _, _, _, i, hi => by simp at hi
  | t :: u :: l, lo, hi, h, 0, _ => by simpa using h.2.2.2.1
  | t :: u :: l, lo, hi, h, i + 1, hi' => by
    have := h.2.2.2.next i (by simp at hi' ⊢; omega)
    simpa using this
theorem zero_iff {s : Sp} {N D : Int} (hD : 0 < D) (h : In s N D) (h0 : N = 0) : zeroF s = true := by
  subst h0
  unfold In at h
  have a1 : s.lo * D ≤ 0 * D := by omega
  have a2 : 0 * D ≤ s.hi * D := by omega
  have := Int.le_of_mul_le_mul_right a1 hD
  have := Int.le_of_mul_le_mul_right a2 hD
  simp [zeroF]; omega
theorem zero_two {s : Sp} {N N' D : Int} (hD : 0 < D) (h : In s N D) (h' : In s N' D) (h0 : N ≤ 0) (h1 : 0 ≤ N') : zeroF s = true := by
  unfold In at h h'
  have a1 : s.lo * D ≤ 0 * D := by omega
  have a2 : 0 * D ≤ s.hi * D := by omega
  have := Int.le_of_mul_le_mul_right a1 hD
  have := Int.le_of_mul_le_mul_right a2 hD
  simp [zeroF]; omega
/-- Does the sign turn between both ends? -/
def Turns (p : List Int) (x : Sp) : Prop := (exP x.lo p ≤ 0 ∧ 0 ≤ exP x.hi p) ∨ (0 ≤ exP x.lo p ∧ exP x.hi p ≤ 0)
theorem turns_half {p : List Int} {x : Sp} (h : Turns p x) : Turns p ⟨x.lo, halfF x⟩ ∨ Turns p ⟨halfF x, x.hi⟩ := by
  unfold Turns at *
  dsimp only
  rcases Int.le_total (exP (halfF x) p) 0 with c | c <;> rcases h with h | h <;> omega
theorem find_law {p : List Int} {least : Int} (h0 : 0 < p.length) (h5 : p.length ≤ 5) : ∀ (f : Nat) (x : Sp) (out o : List Sp), x.lo ≤ x.hi → findG p least f x out = .ok o →
    ∃ l, o = out ++ l ∧ Chain least x.lo x.hi l ∧ (∀ n, x.lo ≤ n → n ≤ x.hi → exP n p = 0 → ∃ s ∈ l, s.lo ≤ n ∧ n ≤ s.hi) ∧ (Turns p x → l ≠ []) ∧ (out.length ≤ 32 → o.length ≤ 32) := by
  intro f
  induction f with
  | zero =>
    intro x out o hx h
    unfold findG at h
    split at h
    · cases h
    · rename_i s hs
      split at h
      · rename_i hz
        injection h with h
        subst h
        refine ⟨[], by simp, hx, fun n h1 h2 h3 => ?_, fun ht => ?_, fun h => h⟩
        · have := zero_iff (by decide) (over_at h0 h5 hs ⟨h1, h2⟩) h3
          rw [hz] at this; cases this
        · have i1 := over_at (n := x.lo) h0 h5 hs ⟨Int.le_refl _, hx⟩
          have i2 := over_at (n := x.hi) h0 h5 hs ⟨hx, Int.le_refl _⟩
          have : zeroF s = true := by
            rcases ht with ht | ht
            · exact zero_two (by decide) i1 i2 ht.1 ht.2
            · exact zero_two (by decide) i2 i1 ht.2 ht.1
          rw [hz] at this; cases this
      · split at h
        · split at h
          · cases h
          · rename_i hw hl
            injection h with h
            subst h
            exact ⟨[x], rfl, ⟨Int.le_refl _, hx, hw, Int.le_refl _⟩, fun n h1 h2 _ => ⟨x, by simp, h1, h2⟩, fun _ => by simp, fun h => by simp; omega⟩
        · cases h
  | succ f ih =>
    intro x out o hx h
    unfold findG at h
    split at h
    · cases h
    · rename_i s hs
      split at h
      · rename_i hz
        injection h with h
        subst h
        refine ⟨[], by simp, hx, fun n h1 h2 h3 => ?_, fun ht => ?_, fun h => h⟩
        · have := zero_iff (by decide) (over_at h0 h5 hs ⟨h1, h2⟩) h3
          rw [hz] at this; cases this
        · have i1 := over_at (n := x.lo) h0 h5 hs ⟨Int.le_refl _, hx⟩
          have i2 := over_at (n := x.hi) h0 h5 hs ⟨hx, Int.le_refl _⟩
          have : zeroF s = true := by
            rcases ht with ht | ht
            · exact zero_two (by decide) i1 i2 ht.1 ht.2
            · exact zero_two (by decide) i2 i1 ht.2 ht.1
          rw [hz] at this; cases this
      · split at h
        · split at h
          · cases h
          · rename_i hw hl
            injection h with h
            subst h
            exact ⟨[x], rfl, ⟨Int.le_refl _, hx, hw, Int.le_refl _⟩, fun n h1 h2 _ => ⟨x, by simp, h1, h2⟩, fun _ => by simp, fun h => by simp; omega⟩
        · dsimp only at h
          split at h
          · cases h
          · rename_i o1 ho1
            have hh := half_in hx
            obtain ⟨l1, e1, c1, n1, t1, b1⟩ := ih ⟨x.lo, halfF x⟩ out o1 hh.1 ho1
            obtain ⟨l2, e2, c2, n2, t2, b2⟩ := ih ⟨halfF x, x.hi⟩ o1 o hh.2 h
            refine ⟨l1 ++ l2, by rw [e2, e1, List.append_assoc], c1.append c2, fun n k1 k2 k3 => ?_, fun ht => ?_, fun h => b2 (b1 h)⟩
            · rcases Int.le_total n (halfF x) with c | c
              · obtain ⟨s, hs, hn⟩ := n1 n k1 c k3
                exact ⟨s, by simp [hs], hn⟩
              · obtain ⟨s, hs, hn⟩ := n2 n c k2 k3
                exact ⟨s, by simp [hs], hn⟩
            · rcases turns_half ht with h' | h'
              · intro e; exact t1 h' (List.append_eq_nil_iff.1 e).1
              · intro e; exact t2 h' (List.append_eq_nil_iff.1 e).2

theorem fits_err {s : Sp} {e : Nat} (h : fitsF s = .error e) : e = 4 := by
  unfold fitsF at h
  split at h
  · cases h
  · injection h with h; exact h.symm
theorem nested_err {x : Sp} : ∀ (p : List Int) (e : Nat), nestedF x p = .error e → e = 4
  | [], e, h => by unfold nestedF at h; cases h
  | [n], e, h => by unfold nestedF at h; cases h
  | n :: m :: p, e, h => by
    unfold nestedF at h
    split at h
    · rename_i e' h1
      injection h with h
      subst h
      exact nested_err (m :: p) _ h1
    · split at h
      · rename_i h2
        injection h with h
        subst h
        exact fits_err h2
      · exact fits_err h
theorem slopeG_err : ∀ (k : Nat) (p : List Int) (e : Nat), slopeG k p = .error e → e = 4
  | k, [], e, h => by unfold slopeG at h; cases h
  | k, n :: p, e, h => by
    unfold slopeG at h
    split at h
    · split at h
      · rename_i h1
        injection h with h
        subst h
        exact slopeG_err (k + 1) p _ h1
      · cases h
    · injection h with h; exact h.symm
theorem steep_err {x : Sp} {p : List Int} {e : Nat} (h : steepF p x = .error e) : e = 4 := by
  unfold steepF at h
  split at h
  · rename_i h1
    injection h with h
    subst h
    unfold slopeF at h1
    split at h1
    · cases h1
    · exact slopeG_err _ _ _ h1
  · exact nested_err _ _ h
theorem quo_err {a d : Sp} {e : Nat} (h : quoF a d = .error e) : e = 8 ∨ e = 4 := by
  unfold quoF at h
  split at h
  · injection h with h; exact .inl h.symm
  · exact .inr (fits_err h)
theorem com_within {a b t : Sp} (h : comF a b = .ok t) : a.lo ≤ t.lo ∧ t.hi ≤ a.hi ∧ b.lo ≤ t.lo ∧ t.hi ≤ b.hi ∧ t.lo ≤ t.hi := by
  unfold comF at h
  split at h
  · cases h
  · injection h with h
    subst h
    dsimp only
    omega
/-- a lies in b. -/
def Sub (a b : Sp) : Prop := b.lo ≤ a.lo ∧ a.hi ≤ b.hi
theorem Sub.refl (a : Sp) : Sub a a := ⟨Int.le_refl _, Int.le_refl _⟩
theorem Sub.trans {a b c : Sp} (h : Sub a b) (h' : Sub b c) : Sub a c := by unfold Sub at *; omega
theorem fits_iso {s s' t' : Sp} (hv : s.lo ≤ s.hi) (hs : Sub s s') (h : fitsF s' = .ok t') : fitsF s = .ok s ∧ Sub s t' := by
  obtain ⟨rfl, h1, h2⟩ := fits_ok h
  unfold M at h1 h2
  unfold Sub at hs
  refine ⟨?_, hs⟩
  unfold fitsF
  rw [if_pos (by unfold M; omega)]
theorem prod_iso {a b a' b' t' : Sp} (ha : a.lo ≤ a.hi) (hb : b.lo ≤ b.hi) (h1 : Sub a a') (h2 : Sub b b') (h : prodF a' b' = .ok t') : ∃ t, prodF a b = .ok t ∧ Sub t t' ∧ t.lo ≤ t.hi := by
  obtain ⟨L, H⟩ := prod_round h
  have c : ∀ x y : Int, a.lo ≤ x → x ≤ a.hi → b.lo ≤ y → y ≤ b.hi → t'.lo ≤ pdn x y ∧ pup x y ≤ t'.hi ∧ pdn x y ≤ pup x y := by
    intro x y k1 k2 k3 k4
    unfold Sub at h1 h2
    have k := corner_btw (A := a'.lo) (B := a'.hi) (N := x) (u := b'.lo) (v := b'.hi) (n := y) (by omega) (by omega) (by omega) (by omega) L H
    refine ⟨(le_dn (by decide)).2 k.1, (up_le (by decide)).2 k.2, ?_⟩
    have := pdn_le x y; have := pup_ge x y
    omega
  have c1 := c a.lo b.lo (by omega) (by omega) (by omega) (by omega)
  have c2 := c a.lo b.hi (by omega) (by omega) (by omega) (by omega)
  have c3 := c a.hi b.lo (by omega) (by omega) (by omega) (by omega)
  have c4 := c a.hi b.hi (by omega) (by omega) (by omega) (by omega)
  have m1 := min4_le (pdn a.lo b.lo) (pdn a.lo b.hi) (pdn a.hi b.lo) (pdn a.hi b.hi)
  have m2 := le_max4 (pup a.lo b.lo) (pup a.lo b.hi) (pup a.hi b.lo) (pup a.hi b.hi)
  have m3 := (le_min4 (m := t'.lo)).2 ⟨c1.1, c2.1, c3.1, c4.1⟩
  have m4 := (max4_le (m := t'.hi)).2 ⟨c1.2.1, c2.2.1, c3.2.1, c4.2.1⟩
  have := fits_ok h
  have hv : min4 (pdn a.lo b.lo) (pdn a.lo b.hi) (pdn a.hi b.lo) (pdn a.hi b.hi) ≤ max4 (pup a.lo b.lo) (pup a.lo b.hi) (pup a.hi b.lo) (pup a.hi b.hi) := by omega
  have hf : fitsF t' = .ok t' := by
    obtain ⟨e, k1, k2⟩ := this
    unfold fitsF
    rw [if_pos ⟨by rw [e]; exact k1, by rw [e]; exact k2⟩]
  have k := fits_iso (s := ⟨min4 (pdn a.lo b.lo) (pdn a.lo b.hi) (pdn a.hi b.lo) (pdn a.hi b.hi), max4 (pup a.lo b.lo) (pup a.lo b.hi) (pup a.hi b.lo) (pup a.hi b.hi)⟩) (s' := t') (t' := t') hv ⟨m3, m4⟩ hf
  exact ⟨_, k.1, k.2, hv⟩
theorem sum_iso {a b a' b' t' : Sp} (ha : a.lo ≤ a.hi) (hb : b.lo ≤ b.hi) (h1 : Sub a a') (h2 : Sub b b') (h : sumF a' b' = .ok t') : ∃ t, sumF a b = .ok t ∧ Sub t t' ∧ t.lo ≤ t.hi := by
  unfold Sub at h1 h2
  have k := fits_iso (s := ⟨a.lo + b.lo, a.hi + b.hi⟩) (by dsimp only; omega) (show Sub _ ⟨a'.lo + b'.lo, a'.hi + b'.hi⟩ from ⟨by dsimp only; omega, by dsimp only; omega⟩) h
  exact ⟨_, k.1, k.2, by dsimp only; omega⟩
/-- Side by side: each number lies in its span. -/
def Inside : List Sp → List Int → Prop
  | [], [] => True
  | s :: b, n :: x => s.lo ≤ n ∧ n ≤ s.hi ∧ Inside b x
  | [], _ :: _ => False
  | _ :: _, [] => False
/-- a box within a box, side by side. -/
def Parts : List Sp → List Sp → Prop
  | [], [] => True
  | s :: a, t :: b => s.lo ≤ s.hi ∧ Sub s t ∧ Parts a b
  | [], _ :: _ => False
  | _ :: _, [] => False
/-- along a tube -/
def Along : List (List Sp) → List (List Int) → Prop
  | [], [] => True
  | b :: l, x :: p => Inside b x ∧ Along l p
  | [], _ :: _ => False
  | _ :: _, [] => False
theorem Along.at : ∀ {l : List (List Sp)} {p : List (List Int)}, Along l p → ∀ i, i < l.length → Inside (l[i]?.getD []) (p[i]?.getD [])
  | [], _, _, i, hi => by simp at hi
  | b :: l, x :: p, h, 0, _ => by simpa using h.1
  | b :: l, x :: p, h, i + 1, hi => by simpa using Along.at h.2 i (by simpa using hi)
  | _ :: _, [], h, _, _ => h.elim
/-- each box within the one ahead -/
def Falls : List (List Sp) → Prop
  | [] => True
  | [_] => True
  | b :: c :: l => Parts c b ∧ Falls (c :: l)
theorem Falls.at : ∀ {l : List (List Sp)}, Falls l → ∀ i, i + 1 < l.length → Parts (l[i + 1]?.getD []) (l[i]?.getD [])
  | [], _, i, hi => by simp at hi
  | [_], _, i, hi => by simp at hi
  | b :: c :: l, h, 0, _ => by simpa using h.1
  | b :: c :: l, h, i + 1, hi => by simpa using Falls.at h.2 i (by simpa using hi)
abbrev sAt (b : List Sp) (i : Nat) : Sp := b[i]?.getD ⟨0, 0⟩
theorem parts_iff : ∀ {a b : List Sp}, Parts a b ↔ a.length = b.length ∧ ∀ i, i < a.length → (sAt a i).lo ≤ (sAt a i).hi ∧ Sub (sAt a i) (sAt b i)
  | [], [] => by simp [Parts]
  | [], _ :: _ => by simp [Parts]
  | _ :: _, [] => by simp [Parts]
  | s :: a, t :: b => by
    unfold Parts
    rw [parts_iff (a := a) (b := b)]
    constructor
    · rintro ⟨h1, h2, h3, h4⟩
      refine ⟨by simpa using h3, fun i hi => ?_⟩
      match i with
      | 0 => exact ⟨h1, h2⟩
      | i + 1 => simpa [sAt] using h4 i (by simpa using hi)
    · rintro ⟨h1, h2⟩
      have h0 := h2 0 (by simp)
      refine ⟨by simpa [sAt] using h0.1, by simpa [sAt] using h0.2, by simpa using h1, fun i hi => ?_⟩
      simpa [sAt] using h2 (i + 1) (by simpa using hi)
theorem Parts.trans {a b c : List Sp} (h : Parts a b) (h' : Parts b c) : Parts a c := by
  rw [parts_iff] at *
  refine ⟨by omega, fun i hi => ⟨(h.2 i hi).1, (h.2 i hi).2.trans (h'.2 i (by omega)).2⟩⟩
theorem Parts.lo : ∀ {a b : List Sp}, Parts a b → ∀ s ∈ a, s.lo ≤ s.hi
  | [], _, _, s, hs => by cases hs
  | s :: a, [], h, _, _ => h.elim
  | t :: a, u :: b, h, s, hs => by
    rcases List.mem_cons.1 hs with e | e
    · rw [e]; exact h.1
    · exact Parts.lo h.2.2 s e
end Go.Proofs.YtmjcnpolnknkkaaGreatDoor
