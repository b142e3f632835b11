/- Plain laws, no program in sight: what a number comes to lies in what its span comes to. -/
import Derived.Test.YtmnbgcbiaapldaaMath
import Derived.Test.YtmnbgcbiaapldaaMathb
set_option linter.unusedVariables false
set_option linter.unusedSimpArgs false
namespace Go.Proofs.Ytmnbgcbiaapldaa

/-- N by D lies in the span. -/
def In (s : Sp) (N D : Int) : Prop := s.lo * D ≤ N ∧ N ≤ s.hi * D

theorem dn_le (n k : Int) (hk : 0 < k) : dn n k * k ≤ n := Int.ediv_mul_le n (by omega)
theorem lt_dn (n k : Int) (hk : 0 < k) : n < dn n k * k + k := by
  have := Int.lt_ediv_add_one_mul_self n hk
  unfold dn
  rw [Int.add_mul, Int.one_mul] at this
  exact this
theorem le_dn {n k m : Int} (hk : 0 < k) : m ≤ dn n k ↔ m * k ≤ n := Int.le_ediv_iff_mul_le hk
theorem up_ge (n k : Int) (hk : 0 < k) : n ≤ up n k * k := by
  have := dn_le (-n) k hk
  unfold up
  unfold dn at this
  rw [Int.neg_mul]
  omega
theorem up_le {n k m : Int} (hk : 0 < k) : up n k ≤ m ↔ n ≤ m * k := by
  have := le_dn (n := -n) (k := k) (m := -m) hk
  unfold up
  unfold dn at this
  rw [Int.neg_mul] at this
  omega
theorem up_lt (n k : Int) (hk : 0 < k) : up n k * k < n + k := by
  have := lt_dn (-n) k hk
  unfold up
  unfold dn at this
  rw [Int.neg_mul]
  omega
theorem fits_ok {s t : Sp} (h : fitsF s = .ok t) : t = s ∧ M s.lo ∧ M s.hi := by
  unfold fitsF at h
  split at h
  · injection h with h; exact ⟨h.symm, by assumption⟩
  · cases h
theorem min4_le (a b c d : Int) : min4 a b c d ≤ a ∧ min4 a b c d ≤ b ∧ min4 a b c d ≤ c ∧ min4 a b c d ≤ d := by unfold min4; omega
theorem le_max4 (a b c d : Int) : a ≤ max4 a b c d ∧ b ≤ max4 a b c d ∧ c ≤ max4 a b c d ∧ d ≤ max4 a b c d := by unfold max4; omega
theorem le_min4 {a b c d m : Int} : m ≤ min4 a b c d ↔ m ≤ a ∧ m ≤ b ∧ m ≤ c ∧ m ≤ d := by unfold min4; omega
theorem max4_le {a b c d m : Int} : max4 a b c d ≤ m ↔ a ≤ m ∧ b ≤ m ∧ c ≤ m ∧ d ≤ m := by unfold max4; omega
theorem pdn_le (x y : Int) : pdn x y * 1000 ≤ x * y := dn_le _ _ (by decide)
theorem pup_ge (x y : Int) : x * y ≤ pup x y * 1000 := up_ge _ _ (by decide)
/-- What a product is round. -/
theorem prod_round {s x t : Sp} (h : prodF s x = .ok t) :
    (t.lo * 1000 ≤ s.lo * x.lo ∧ t.lo * 1000 ≤ s.lo * x.hi ∧ t.lo * 1000 ≤ s.hi * x.lo ∧ t.lo * 1000 ≤ s.hi * x.hi) ∧
    (s.lo * x.lo ≤ t.hi * 1000 ∧ s.lo * x.hi ≤ t.hi * 1000 ∧ s.hi * x.lo ≤ t.hi * 1000 ∧ s.hi * x.hi ≤ t.hi * 1000) := by
  obtain ⟨rfl, -⟩ := fits_ok h
  have h1 := min4_le (pdn s.lo x.lo) (pdn s.lo x.hi) (pdn s.hi x.lo) (pdn s.hi x.hi)
  have h2 := le_max4 (pup s.lo x.lo) (pup s.lo x.hi) (pup s.hi x.lo) (pup s.hi x.hi)
  have a1 := pdn_le s.lo x.lo; have a2 := pdn_le s.lo x.hi; have a3 := pdn_le s.hi x.lo; have a4 := pdn_le s.hi x.hi
  have b1 := pup_ge s.lo x.lo; have b2 := pup_ge s.lo x.hi; have b3 := pup_ge s.hi x.lo; have b4 := pup_ge s.hi x.hi
  dsimp only
  generalize s.lo * x.lo = e1 at *; generalize s.lo * x.hi = e2 at *; generalize s.hi * x.lo = e3 at *; generalize s.hi * x.hi = e4 at *
  omega
theorem mul_btw {u v n : Int} (N : Int) (h1 : u ≤ n) (h2 : n ≤ v) : (N * u ≤ N * n ∧ N * n ≤ N * v) ∨ (N * v ≤ N * n ∧ N * n ≤ N * u) := by
  rcases Int.le_total 0 N with h | h
  · exact .inl ⟨Int.mul_le_mul_of_nonneg_left h1 h, Int.mul_le_mul_of_nonneg_left h2 h⟩
  · exact .inr ⟨Int.mul_le_mul_of_nonpos_left h h2, Int.mul_le_mul_of_nonpos_left h h1⟩
/-- A product of two numbers between bounds lies between what bounds the four corners. -/
theorem corner_btw {A B N u v n L H : Int} (h1 : A ≤ N) (h2 : N ≤ B) (h3 : u ≤ n) (h4 : n ≤ v)
    (hL : L ≤ A * u ∧ L ≤ A * v ∧ L ≤ B * u ∧ L ≤ B * v) (hH : A * u ≤ H ∧ A * v ≤ H ∧ B * u ≤ H ∧ B * v ≤ H) : L ≤ N * n ∧ N * n ≤ H := by
  have k1 := mul_btw N h3 h4
  have k2 := mul_btw u h1 h2
  have k3 := mul_btw v h1 h2
  rw [Int.mul_comm u A, Int.mul_comm u B, Int.mul_comm u N] at k2
  rw [Int.mul_comm v A, Int.mul_comm v B, Int.mul_comm v N] at k3
  omega
theorem mul4 (a b c d : Int) : (a * b) * (c * d) = (a * c) * (b * d) := by
  rw [Int.mul_assoc, Int.mul_assoc, ← Int.mul_assoc b c d, Int.mul_comm b c, Int.mul_assoc c b d]
theorem prod_in {s x t : Sp} {N D a b : Int} (h : prodF s x = .ok t) (hD : 0 ≤ D) (hb : 0 ≤ b) (h1 : In s N D) (h2 : In x a b) : In t (N * a) (1000 * (D * b)) := by
  obtain ⟨⟨a1, a2, a3, a4⟩, ⟨b1, b2, b3, b4⟩⟩ := prod_round h
  have hd : 0 ≤ D * b := Int.mul_nonneg hD hb
  have mono : ∀ {p q : Int}, p ≤ q → p * (D * b) ≤ q * (D * b) := fun h => Int.mul_le_mul_of_nonneg_right h hd
  have := corner_btw (L := t.lo * 1000 * (D * b)) (H := t.hi * 1000 * (D * b)) h1.1 h1.2 h2.1 h2.2
    (by rw [mul4 s.lo D x.lo b, mul4 s.lo D x.hi b, mul4 s.hi D x.lo b, mul4 s.hi D x.hi b]; exact ⟨mono a1, mono a2, mono a3, mono a4⟩)
    (by rw [mul4 s.lo D x.lo b, mul4 s.lo D x.hi b, mul4 s.hi D x.lo b, mul4 s.hi D x.hi b]; exact ⟨mono b1, mono b2, mono b3, mono b4⟩)
  have e : ∀ z : Int, z * (1000 * (D * b)) = z * 1000 * (D * b) := fun z => (Int.mul_assoc _ _ _).symm
  unfold In
  rw [e, e]
  exact this
theorem sum_in {s q t : Sp} {N N' D : Int} (h : sumF s q = .ok t) (h1 : In s N D) (h2 : In q N' D) : In t (N + N') D := by
  obtain ⟨rfl, -⟩ := fits_ok h
  unfold In at *
  dsimp only
  rw [Int.add_mul, Int.add_mul]
  omega
theorem rest_in {s q t : Sp} {N N' D : Int} (h : restF s q = .ok t) (h1 : In s N D) (h2 : In q N' D) : In t (N - N') D := by
  obtain ⟨rfl, -⟩ := fits_ok h
  unfold In at *
  dsimp only
  rw [Int.sub_mul, Int.sub_mul]
  omega
theorem in_alone (n D : Int) : In ⟨n, n⟩ (n * D) D := ⟨Int.le_refl _, Int.le_refl _⟩
theorem in_one {s : Sp} {n : Int} (h1 : s.lo ≤ n) (h2 : n ≤ s.hi) : In s n 1 := ⟨by rw [Int.mul_one]; exact h1, by rw [Int.mul_one]; exact h2⟩
theorem in_mul {s : Sp} {N D k : Int} (hk : 0 ≤ k) (h : In s N D) : In s (N * k) (D * k) := by
  have e : ∀ z : Int, z * (D * k) = z * D * k := fun z => (Int.mul_assoc _ _ _).symm
  unfold In at *
  rw [e, e]
  exact ⟨Int.mul_le_mul_of_nonneg_right h.1 hk, Int.mul_le_mul_of_nonneg_right h.2 hk⟩
theorem in_com {a b t : Sp} {N D : Int} (hD : 0 ≤ D) (h : comF a b = .ok t) (h1 : In a N D) (h2 : In b N D) : In t N D := by
  unfold comF at h
  split at h
  · cases h
  · injection h with h
    subst h
    unfold In at *
    dsimp only
    constructor
    · rcases Int.le_total a.lo b.lo with e | e
      · rw [Int.max_eq_right e]; exact h2.1
      · rw [Int.max_eq_left e]; exact h1.1
    · rcases Int.le_total a.hi b.hi with e | e
      · rw [Int.min_eq_left e]; exact h1.2
      · rw [Int.min_eq_right e]; exact h2.2
/-- Where a number is in both, they meet. -/
theorem com_some {a b : Sp} {N D : Int} (hD : 0 < D) (h1 : In a N D) (h2 : In b N D) : ∃ t, comF a b = .ok t := by
  unfold comF
  rw [if_neg]
  · exact ⟨_, rfl⟩
  · intro hlt
    have k : ∀ {p q : Int}, p * D ≤ N → N ≤ q * D → p ≤ q := fun e1 e2 => Int.le_of_mul_le_mul_right (Int.le_trans e1 e2) hD
    have := k h1.1 h1.2; have := k h1.1 h2.2; have := k h2.1 h1.2; have := k h2.1 h2.2
    omega

/-- Horner's way at a by b, by so many thousandths' powers more: the number over (1000 b)^(length - 1). -/
def hNum (a b : Int) : List Int → Int
  | [] => 0
  | [n] => n
  | n :: m :: p => hNum a b (m :: p) * a + n * (1000 * b) ^ (p.length + 1)
theorem nested_in {x : Sp} {a b : Int} (hb : 0 < b) (hx : In x a b) : ∀ (p : List Int) (s : Sp), nestedF x p = .ok s → In s (hNum a b p) ((1000 * b) ^ (p.length - 1))
  | [], s, h => by
    unfold nestedF at h
    injection h with h
    subst h
    exact ⟨by simp [hNum], by simp [hNum]⟩
  | [n], s, h => by
    unfold nestedF at h
    injection h with h
    subst h
    exact ⟨by simp [hNum], by simp [hNum]⟩
  | n :: m :: p, s, h => by
    unfold nestedF at h
    split at h
    · cases h
    · rename_i s1 h1
      split at h
      · cases h
      · rename_i t h2
        have ih := nested_in hb hx (m :: p) s1 h1
        have hp : (0 : Int) ≤ (1000 * b) ^ (p.length) := Int.pow_nonneg (by omega)
        have k1 := prod_in h2 (by simpa using hp) (by omega) ih hx
        have e : 1000 * ((1000 * b) ^ ((m :: p).length - 1) * b) = (1000 * b) ^ (p.length + 1) := by
          simp only [List.length_cons, Nat.add_sub_cancel]
          rw [Int.pow_succ, ← Int.mul_assoc, Int.mul_comm 1000, Int.mul_assoc]
        rw [e] at k1
        have k2 := sum_in h k1 (in_alone n _)
        simpa [hNum] using k2
end Go.Proofs.Ytmnbgcbiaapldaa
