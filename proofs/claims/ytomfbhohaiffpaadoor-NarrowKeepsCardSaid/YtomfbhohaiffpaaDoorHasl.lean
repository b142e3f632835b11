/- Plain laws on what the functions compute, which the walks do not need. -/
import Derived.Test.YtomfbhohaiffpaaDoorHas
set_option linter.unusedVariables false
set_option linter.unusedSimpArgs false
namespace Go.Proofs.YtomfbhohaiffpaaDoor

theorem lt_dn (n k : Int) (hk : 0 < k) : n < dn n k * k + k := by
  have := Int.lt_ediv_add_one_mul_self n hk
  unfold dn
  rw [Int.add_mul, Int.one_mul] at this
  exact this
theorem up_lt (n k : Int) (hk : 0 < k) : up n k * k < n + k := by
  have := lt_dn (-n) k hk
  unfold up
  unfold dn at this
  rw [Int.neg_mul]
  omega
/-- Where a number is in both, they meet. -/
theorem com_some {a b : Sp} {N D : Int} (hD : 0 < D) (h1 : In a N D) (h2 : In b N D) : ∃ t, comF a b = .ok t := by
  unfold comF
  rw [if_neg]
  · exact ⟨_, rfl⟩
  · intro hlt
    have k : ∀ {p q : Int}, p * D ≤ N → N ≤ q * D → p ≤ q := fun e1 e2 => Int.le_of_mul_le_mul_right (Int.le_trans e1 e2) hD
    have := k h1.1 h1.2; have := k h1.1 h2.2; have := k h2.1 h1.2; have := k h2.1 h2.2
    omega

theorem pieceEnd_last (x : Sp) (m : Nat) (h : 0 < m) : pieceEnd x m m = x.hi := by
  unfold pieceEnd
  rw [Int.mul_ediv_cancel _ (by omega)]
  omega
/-- A number between the first end and the last one is in a piece. -/
theorem pieces_cover (f : Nat → Int) (n : Int) : ∀ m : Nat, 0 < m → f 0 ≤ n → n ≤ f m → ∃ i, i < m ∧ f i ≤ n ∧ n ≤ f (i + 1)
  | 0, h, _, _ => absurd h (by omega)
  | m + 1, _, h1, h2 => by
    by_cases h : f m ≤ n
    · exact ⟨m, by omega, h, h2⟩
    · by_cases h0 : 0 < m
      · obtain ⟨i, hi, a, b⟩ := pieces_cover f n m h0 h1 (by omega)
        exact ⟨i, by omega, a, b⟩
      · obtain rfl : m = 0 := by omega
        exact absurd h1 h
theorem in_both {a b : Sp} {N D : Int} (hD : 0 ≤ D) (h : In a N D ∨ In b N D) : In (bothF a b) N D := by
  unfold In bothF at *
  dsimp only
  have mono : ∀ {p q : Int}, p ≤ q → p * D ≤ q * D := fun h => Int.mul_le_mul_of_nonneg_right h hD
  have a1 := mono (Int.min_le_left a.lo b.lo); have a2 := mono (Int.min_le_right a.lo b.lo)
  have a3 := mono (Int.le_max_left a.hi b.hi); have a4 := mono (Int.le_max_right a.hi b.hi)
  omega
theorem overAll_at {p : List Int} {n : Int} (h0 : 0 < p.length) (h5 : p.length ≤ 5) : ∀ (l : List Sp) (o : Option Sp) (s : Sp), overAllF p o l = .ok s →
    ((∃ t, o = some t ∧ In t (exP n p) 1000000000000) ∨ ∃ y ∈ l, y.lo ≤ n ∧ n ≤ y.hi) → In s (exP n p) 1000000000000
  | [], o, s, h, hh => by
    unfold overAllF at h
    injection h with h
    rcases hh with ⟨t, rfl, ht⟩ | ⟨y, hy, _⟩
    · simp at h; subst h; exact ht
    · cases hy
  | y :: l, o, s, h, hh => by
    unfold overAllF at h
    split at h
    · cases h
    · rename_i r hr
      refine overAll_at h0 h5 l _ s h ?_
      rcases hh with ⟨t, rfl, ht⟩ | ⟨z, hz, hn⟩
      · exact .inl ⟨_, rfl, in_both (by decide) (.inl ht)⟩
      · rcases List.mem_cons.1 hz with e | e
        · subst e
          have := over_at h0 h5 hr hn
          cases o with
          | none => exact .inl ⟨_, rfl, this⟩
          | some t => exact .inl ⟨_, rfl, in_both (by decide) (.inr this)⟩
        · exact .inr ⟨z, e, hn⟩

theorem Chain.mem {least : Int} : ∀ {l : List Sp} {lo hi : Int}, Chain least lo hi l → ∀ s ∈ l, lo ≤ s.lo ∧ s.lo ≤ s.hi ∧ s.hi ≤ hi ∧ s.hi - s.lo ≤ least
  | [], _, _, _, _, hs => by cases hs
  | t :: l, lo, hi, h, s, hs => by
    rcases List.mem_cons.1 hs with e | e
    · subst e
      exact ⟨h.1, h.2.1, h.2.2.2.le, h.2.2.1⟩
    · have := h.2.2.2.mem s e
      have := h.1; have := h.2.1
      omega
/-- What a quotient is round. -/
theorem qdn_le {x y : Int} (h : y ≠ 0) : (0 < y → qdn x y * y ≤ 1000 * x ∧ 1000 * x ≤ qup x y * y) ∧ (y < 0 → 1000 * x ≤ qdn x y * y ∧ qup x y * y ≤ 1000 * x) := by
  unfold qdn qup
  refine ⟨fun hy => ?_, fun hy => ?_⟩
  · rw [if_neg (by omega), if_neg (by omega)]
    have := dn_le (x * 1000) y hy
    have := up_ge (x * 1000) y hy
    omega
  · rw [if_pos hy, if_pos hy]
    have h1 := dn_le (-x * 1000) (-y) (by omega)
    have h2 := up_ge (-x * 1000) (-y) (by omega)
    rw [Int.mul_neg] at h1 h2
    omega
/-- A number that is the quotient lies in the quotient's span. -/
theorem quo_in {a d q : Sp} {N D T B k : Int} (h : quoF a d = .ok q) (hd : d.lo ≤ d.hi) (hD : 0 < D) (hB : 0 < B) (h1 : In a N D) (h2 : In d T B) (e : k * (T * D) = 1000 * (N * B)) : q.lo ≤ k ∧ k ≤ q.hi := by
  unfold quoF at h
  split at h
  · cases h
  · rename_i hz
    obtain ⟨rfl, -⟩ := fits_ok h
    have hz' : 0 < d.lo ∨ d.hi < 0 := by simp [zeroF] at hz; omega
    have m1 := min4_le (qdn a.lo d.lo) (qdn a.lo d.hi) (qdn a.hi d.lo) (qdn a.hi d.hi)
    have m2 := le_max4 (qup a.lo d.lo) (qup a.lo d.hi) (qup a.hi d.lo) (qup a.hi d.hi)
    generalize hL : min4 (qdn a.lo d.lo) (qdn a.lo d.hi) (qdn a.hi d.lo) (qdn a.hi d.hi) = L at *
    generalize hH : max4 (qup a.lo d.lo) (qup a.lo d.hi) (qup a.hi d.lo) (qup a.hi d.hi) = U at *
    dsimp only
    clear hL hH h hz
    have hDB : 0 < D * B := Int.mul_pos hD hB
    unfold In at h1 h2
    have g1 : ∀ {x y : Int}, x ≤ y → x * B ≤ y * B := fun h => Int.mul_le_mul_of_nonneg_right h (by omega)
    have g2 : ∀ {x y : Int}, x ≤ y → x * D ≤ y * D := fun h => Int.mul_le_mul_of_nonneg_right h (by omega)
    have n1 := g1 h1.1; have n2 := g1 h1.2
    have t1 := g2 h2.1; have t2 := g2 h2.2
    rcases hz' with hp | hp
    · -- all of d is above 0
      have hTp : 0 < T * D := Int.mul_pos (by have := Int.mul_pos hp hB; omega) hD
      have q1 := (qdn_le (x := a.lo) (y := d.lo) (by omega)).1 hp
      have q2 := (qdn_le (x := a.lo) (y := d.hi) (by omega)).1 (by omega)
      have q3 := (qdn_le (x := a.hi) (y := d.lo) (by omega)).1 hp
      have q4 := (qdn_le (x := a.hi) (y := d.hi) (by omega)).1 (by omega)
      have r1 : L * d.lo ≤ 1000 * a.lo := Int.le_trans (Int.mul_le_mul_of_nonneg_right m1.1 (by omega)) q1.1
      have r2 : L * d.hi ≤ 1000 * a.lo := Int.le_trans (Int.mul_le_mul_of_nonneg_right m1.2.1 (by omega)) q2.1
      have r3 : 1000 * a.hi ≤ U * d.lo := Int.le_trans q3.2 (Int.mul_le_mul_of_nonneg_right m2.2.2.1 (by omega))
      have r4 : 1000 * a.hi ≤ U * d.hi := Int.le_trans q4.2 (Int.mul_le_mul_of_nonneg_right m2.2.2.2 (by omega))
      have s1 : L * T ≤ 1000 * a.lo * B := by
        have := mul_btw L h2.1 h2.2
        have c1 := g1 r1; have c2 := g1 r2
        rw [Int.mul_assoc] at c1 c2
        rcases this with k | k <;> omega
      have s2 : 1000 * a.hi * B ≤ U * T := by
        have := mul_btw U h2.1 h2.2
        have c1 := g1 r3; have c2 := g1 r4
        rw [Int.mul_assoc U] at c1 c2
        rcases this with k | k <;> omega
      have s3 := g2 s1; have s4 := g2 s2
      have e1 : 1000 * a.lo * B * D = 1000 * (a.lo * D * B) := by grind
      have e2 : 1000 * a.hi * B * D = 1000 * (a.hi * D * B) := by grind
      rw [e1, Int.mul_assoc L] at s3
      rw [e2, Int.mul_assoc U] at s4
      exact ⟨Int.le_of_mul_le_mul_right (by omega) hTp, Int.le_of_mul_le_mul_right (by omega) hTp⟩
    · -- all of d is below 0
      have hTn : 0 < -(T * D) := by
        have h3 : d.hi * B < 0 := Int.mul_neg_of_neg_of_pos hp hB
        have : T * D < 0 := Int.mul_neg_of_neg_of_pos (by omega) hD
        omega
      have q1 := (qdn_le (x := a.lo) (y := d.lo) (by omega)).2 (by omega)
      have q2 := (qdn_le (x := a.lo) (y := d.hi) (by omega)).2 hp
      have q3 := (qdn_le (x := a.hi) (y := d.lo) (by omega)).2 (by omega)
      have q4 := (qdn_le (x := a.hi) (y := d.hi) (by omega)).2 hp
      have r1 : U * d.lo ≤ 1000 * a.lo := Int.le_trans (Int.mul_le_mul_of_nonpos_right m2.1 (by omega)) q1.2
      have r2 : U * d.hi ≤ 1000 * a.lo := Int.le_trans (Int.mul_le_mul_of_nonpos_right m2.2.1 (by omega)) q2.2
      have r3 : 1000 * a.hi ≤ L * d.lo := Int.le_trans q3.1 (Int.mul_le_mul_of_nonpos_right m1.2.2.1 (by omega))
      have r4 : 1000 * a.hi ≤ L * d.hi := Int.le_trans q4.1 (Int.mul_le_mul_of_nonpos_right m1.2.2.2 (by omega))
      have s1 : U * T ≤ 1000 * a.lo * B := by
        have := mul_btw U h2.1 h2.2
        have c1 := g1 r1; have c2 := g1 r2
        rw [Int.mul_assoc] at c1 c2
        rcases this with k | k <;> omega
      have s2 : 1000 * a.hi * B ≤ L * T := by
        have := mul_btw L h2.1 h2.2
        have c1 := g1 r3; have c2 := g1 r4
        rw [Int.mul_assoc L] at c1 c2
        rcases this with k | k <;> omega
      have s3 := g2 s1; have s4 := g2 s2
      have e1 : 1000 * a.lo * B * D = 1000 * (a.lo * D * B) := by grind
      have e2 : 1000 * a.hi * B * D = 1000 * (a.hi * D * B) := by grind
      rw [e1, Int.mul_assoc U] at s3
      rw [e2, Int.mul_assoc L] at s4
      have u1 : k * (T * D) ≤ L * (T * D) := by omega
      have u2 : U * (T * D) ≤ k * (T * D) := by omega
      have v1 : L * -(T * D) ≤ k * -(T * D) := by rw [Int.mul_neg, Int.mul_neg]; omega
      have v2 : k * -(T * D) ≤ U * -(T * D) := by rw [Int.mul_neg, Int.mul_neg]; omega
      exact ⟨Int.le_of_mul_le_mul_right v1 hTn, Int.le_of_mul_le_mul_right v2 hTn⟩
/-- A step nearer keeps a root. -/
theorem nearer_root {p : List Int} {x : Sp} {n : Int} (h0 : 0 < p.length) (h5 : p.length ≤ 5) (hn : x.lo ≤ n ∧ n ≤ x.hi) (hz : exP n p = 0) :
    (∀ s, nearerF p x = .ok s → s.lo ≤ n ∧ n ≤ s.hi) ∧ nearerF p x ≠ .error 5 := by
  have hm := half_in (x := x) (by omega)
  unfold nearerF
  generalize halfF x = m at *
  cases h1 : nestedF ⟨m, m⟩ p with
  | error e =>
    have := nested_err _ _ h1
    subst this
    exact ⟨fun s h => (by cases h), fun h => (by cases h)⟩
  | ok at_ =>
    dsimp only
    cases h2 : steepF p x with
    | error e =>
      have := steep_err h2
      subst this
      exact ⟨fun s h => (by cases h), fun h => (by cases h)⟩
    | ok d =>
      dsimp only
      cases h3 : quoF at_ d with
      | error e =>
        rcases quo_err h3 with rfl | rfl
        · exact ⟨fun s h => (by cases h), fun h => (by cases h)⟩
        · exact ⟨fun s h => (by cases h), fun h => (by cases h)⟩
      | ok q =>
        dsimp only
        have i1 := nested_at (n := m) h5 h1 ⟨Int.le_refl _, Int.le_refl _⟩
        obtain ⟨T, e, i2⟩ := steep_in h0 h5 h2 hm hn
        rw [hz, Int.sub_zero] at e
        have hd : d.lo ≤ d.hi := by unfold In at i2; omega
        have hq := quo_in (k := m - n) h3 hd (by decide) (by decide) i1 i2 (by
          rw [← Int.mul_assoc, ← e]; omega)
        cases h4 : restF ⟨m, m⟩ q with
        | error e =>
          have := fits_err h4
          subst this
          exact ⟨fun s h => (by cases h), fun h => (by cases h)⟩
        | ok s =>
          dsimp only
          have i3 : In s n 1 := by
            have := rest_in (N := m) (N' := m - n) (D := 1) h4 ⟨by simp, by simp⟩ ⟨by omega, by omega⟩
            rwa [show m - (m - n) = n by omega] at this
          have i4 := in_one hn.1 hn.2
          obtain ⟨t, ht⟩ := com_some (by decide) i3 i4
          rw [ht]
          refine ⟨fun s' h => ?_, fun h => (by cases h)⟩
          injection h with h
          subst h
          have := in_com (by decide) ht i3 i4
          unfold In at this
          omega
theorem nearer_within {p : List Int} {x s : Sp} (h : nearerF p x = .ok s) : x.lo ≤ s.lo ∧ s.hi ≤ x.hi ∧ s.lo ≤ s.hi := by
  unfold nearerF at h
  split at h
  · cases h
  · split at h
    · cases h
    · split at h
      · cases h
      · split at h
        · cases h
        · have := com_within h
          omega
theorem nrun_law {p : List Int} (h0 : 0 < p.length) (h5 : p.length ≤ 5) : ∀ (k : Nat) (x s : Sp), x.lo ≤ x.hi → nrunG p k x = .ok s →
    x.lo ≤ s.lo ∧ s.hi ≤ x.hi ∧ s.lo ≤ s.hi ∧ ∀ n, x.lo ≤ n → n ≤ x.hi → exP n p = 0 → s.lo ≤ n ∧ n ≤ s.hi
  | 0, x, s, hx, h => by
    unfold nrunG at h
    injection h with h
    subst h
    exact ⟨Int.le_refl _, Int.le_refl _, hx, fun n a b _ => ⟨a, b⟩⟩
  | k + 1, x, s, hx, h => by
    unfold nrunG at h
    split at h
    · cases h
    · rename_i y hy
      split at h
      · injection h with h
        subst h
        exact ⟨Int.le_refl _, Int.le_refl _, hx, fun n a b _ => ⟨a, b⟩⟩
      · have w1 := nearer_within hy
        have ih := nrun_law h0 h5 k y s w1.2.2 h
        refine ⟨by omega, by omega, ih.2.2.1, fun n a b c => ?_⟩
        have := (nearer_root h0 h5 ⟨a, b⟩ c).1 y hy
        exact ih.2.2.2 n this.1 this.2 c
theorem nrun_err {p : List Int} (h0 : 0 < p.length) (h5 : p.length ≤ 5) : ∀ (k : Nat) (x : Sp) (n : Int), x.lo ≤ n → n ≤ x.hi → exP n p = 0 → nrunG p k x ≠ .error 5
  | 0, x, n, _, _, _ => by unfold nrunG; exact fun h => (by cases h)
  | k + 1, x, n, a, b, c => by
    unfold nrunG
    have hr := nearer_root h0 h5 ⟨a, b⟩ c
    cases hy : nearerF p x with
    | error e =>
      dsimp only
      intro h
      injection h with h
      subst h
      exact hr.2 hy
    | ok y =>
      dsimp only
      split
      · exact fun h => (by cases h)
      · have := hr.1 y hy
        exact nrun_err h0 h5 k y n this.1 this.2 c
def powX (t : Tm) : Nat → List Int → Int
  | _, [] => 1
  | i, v :: x => v ^ (t.time i).toNat * powX t (i + 1) x
theorem oneG_in {t : Tm} : ∀ (b : List Sp) (x : List Int) (i : Nat) (s r : Sp) (N D : Int), Inside b x → 0 < D → In s N D → oneG t i s b = .ok r → In r (N * powX t i x) (D * 1000 ^ degX t i x)
  | [], [], i, s, r, N, D, _, hD, hs, h => by
    unfold oneG at h
    injection h with h
    subst h
    simpa [powX, degX] using hs
  | c :: b, v :: x, i, s, r, N, D, hin, hD, hs, h => by
    obtain ⟨h1, h2, h3⟩ := hin
    unfold oneG at h
    generalize hk : (t.time i).toNat = k at *
    cases e1 : raisedF c k with
    | error e => rw [e1] at h; cases h
    | ok q =>
      rw [e1] at h
      dsimp only at h
      cases e2 : prodF s q with
      | error e => rw [e2] at h; cases h
      | ok u =>
        rw [e2] at h
        dsimp only at h
        have k1 := raised_in (b := 1) (by decide) e1 (in_one h1 h2)
        rw [Int.mul_one] at k1
        have hp : (0 : Int) < 1000 ^ k := Int.pow_pos (by decide)
        have k2 := prod_in e2 (Int.le_of_lt hD) (Int.le_of_lt hp) hs k1
        have k3 : In u (N * v ^ k) (D * 1000 ^ k) := by
          apply in_le (k := 1000) (by decide)
          rw [show N * v ^ k * 1000 = N * (1000 * v ^ k) by grind, show D * 1000 ^ k * 1000 = 1000 * (D * 1000 ^ k) by grind]
          exact k2
        have k4 := oneG_in b x (i + 1) u r _ _ h3 (Int.mul_pos hD hp) k3 h
        have e4 : N * powX t i (v :: x) = N * v ^ k * powX t (i + 1) x := by simp [powX, hk, Int.mul_assoc]
        have e5 : D * (1000 : Int) ^ degX t i (v :: x) = D * 1000 ^ k * 1000 ^ degX t (i + 1) x := by simp [degX, hk, Int.pow_add, Int.mul_assoc]
        rw [e4, e5]
        exact k4
  | [], _ :: _, _, _, _, _, _, h, _, _, _ => h.elim
  | _ :: _, [], _, _, _, _, _, h, _, _, _ => h.elim
theorem exactG_eq {t : Tm} (ht : ∀ i, 0 ≤ t.time i) : ∀ (x : List Int) (i : Nat) (n left : Int), (degX t i x : Int) ≤ left → exactG t i n left x = n * powX t i x * 1000 ^ (left.toNat - degX t i x)
  | [], i, n, left, _ => by simp [exactG, powX, degX]
  | v :: x, i, n, left, h => by
    have h0 := ht i
    have hd : (degX t (i + 1) x : Int) ≤ left - t.time i := by simp [degX] at h; omega
    unfold exactG
    rw [exactG_eq ht x (i + 1) _ _ hd]
    have e1 : (left - t.time i).toNat - degX t (i + 1) x = left.toNat - degX t i (v :: x) := by simp [degX]; omega
    rw [e1]
    simp [powX, Int.mul_assoc]
theorem one_at {t : Tm} {k : Nat} {b : List Sp} {x : List Int} {r : Sp} (hin : Inside b x) (h3 : x.length ≤ 3) (hc : tcheckF t k = none) (h : oneF t b = .ok r) : In r (exactF t x) 1000000000 := by
  have hd := deg_le hc x h3
  have h1 := oneG_in b x 0 ⟨t.by_, t.by_⟩ r t.by_ 1 hin (by decide) (in_one (Int.le_refl _) (Int.le_refl _)) h
  have e : exactF t x = t.by_ * powX t 0 x * 1000 ^ (3 - degX t 0 x) := exactG_eq (fun i => ((tcheck_ok hc).1 i).1) x 0 _ _ (by omega)
  rw [e]
  have h2 := in_mul (k := 1000 ^ (3 - degX t 0 x)) (Int.pow_nonneg (by decide)) h1
  rw [Int.one_mul, ← Int.pow_add, show degX t 0 x + (3 - degX t 0 x) = 3 by omega] at h2
  exact h2
theorem fover_in {b : List Sp} {x : List Int} {k : Nat} (hin : Inside b x) (h3 : x.length ≤ 3) : ∀ (f : List Tm) (s r : Sp) (N m : Int), firstBadT k f = none → foverG b s f = .ok r → pointG x N f = .ok m → In s N 1000000000 → In r m 1000000000
  | [], s, r, N, m, _, h1, h2, h => by
    unfold foverG at h1
    unfold pointG at h2
    injection h1 with h1
    injection h2 with h2
    subst h1; subst h2
    exact h
  | t :: f, s, r, N, m, hb, h1, h2, h => by
    unfold firstBadT at hb
    split at hb
    · cases hb
    · rename_i hc
      unfold foverG at h1
      unfold pointG at h2
      split at h2
      · cases e1 : oneF t b with
        | error e => rw [e1] at h1; cases h1
        | ok u =>
          rw [e1] at h1
          dsimp only at h1
          cases e2 : sumF s u with
          | error e => rw [e2] at h1; cases h1
          | ok s' =>
            rw [e2] at h1
            dsimp only at h1
            exact fover_in hin h3 f s' r _ m hb h1 h2 (sum_in e2 h (one_at hin h3 hc e1))
      · cases h2
theorem dn_le_up (n k : Int) (hk : 0 < k) : dn n k ≤ up n k := by
  have h1 := dn_le n k hk
  have h2 := up_ge n k hk
  have h3 : dn n k * k ≤ up n k * k := Int.le_trans h1 h2
  exact Int.le_of_mul_le_mul_right h3 hk
theorem in_round2 {s : Sp} {E D : Int} (hD : 0 < D) (h : In s E D) : s.lo ≤ dn E D ∧ dn E D ≤ s.hi := ⟨(le_dn hD).2 h.1, Int.le_trans (dn_le_up E D hD) ((up_le hD).2 h.2)⟩
theorem point_has {f : List Tm} {b : List Sp} {x : List Int} {s : Sp} {n : Int} {k : Int} (hc : fcheckF f k = none) (hin : Inside b x) (h3 : x.length ≤ 3) (h1 : foverF f b = .ok s) (h2 : pointF f x = .ok n) : s.lo ≤ n ∧ n ≤ s.hi := by
  unfold pointF at h2
  cases e : pointG x 0 f with
  | error e' => rw [e] at h2; cases h2
  | ok m =>
    rw [e] at h2
    dsimp only at h2
    split at h2
    · injection h2 with h2
      rw [← h2]
      exact in_round2 (by decide) (fover_in hin h3 f ⟨0, 0⟩ s 0 m (fcheck_ok hc).2.2.2 h1 e ⟨by simp, by simp⟩)
    · cases h2
theorem inF_parts : ∀ (a b : List Sp), a.length = b.length → (∀ s ∈ a, s.lo ≤ s.hi) → inF a b = true → Parts a b
  | [], [], _, _, _ => trivial
  | s :: a, t :: b, hl, ha, h => by
    unfold inF at h
    split at h
    · cases h
    · exact ⟨ha s (by simp), ⟨by omega, by omega⟩, inF_parts a b (by simpa using hl) (fun u hu => ha u (by simp [hu])) h⟩
  | [], _ :: _, h, _, _ => by simp at h
  | _ :: _, [], h, _, _ => by simp at h
theorem Parts.inside : ∀ {a b : List Sp} {x : List Int}, Parts a b → Inside a x → Inside b x
  | [], [], [], _, _ => trivial
  | s :: a, t :: b, n :: x, h, hx => by
    have h2 := h.2.1
    unfold Sub at h2
    exact ⟨by have := hx.1; omega, by have := hx.2.1; omega, Parts.inside h.2.2 hx.2.2⟩
  | [], _ :: _, _, h, _ => h.elim
  | _ :: _, [], _, h, _ => h.elim
  | [], [], _ :: _, _, hx => hx.elim
  | _ :: _, _ :: _, [], _, hx => hx.elim
theorem sumF_parts {u p v : Sp} (h : sumF u p = .ok v) : v.lo = u.lo + p.lo ∧ v.hi = u.hi + p.hi := by
  unfold sumF at h
  obtain ⟨e, -, -⟩ := fits_ok h
  rw [e]
  exact ⟨rfl, rfl⟩
theorem move_in {k : Int} {b : List Sp} {x : List Int} (hin : Inside b x) (h3 : x.length ≤ 3) : ∀ (fs : List (List Tm)) (ps y : List Sp) (qs z : List Int), firstBadF k fs = none → Inside ps qs → nextG b fs ps = .ok y → moveG x fs qs = .ok z → Inside y z
  | [], ps, y, qs, z, _, _, h1, h2 => by
    unfold nextG at h1
    unfold moveG at h2
    injection h1 with h1
    injection h2 with h2
    subst h1; subst h2
    trivial
  | f :: fs, [], y, [], z, _, _, h1, h2 => by
    unfold nextG at h1
    unfold moveG at h2
    injection h1 with h1
    injection h2 with h2
    subst h1; subst h2
    trivial
  | f :: fs, p :: ps, y, q :: qs, z, hb, hp, h1, h2 => by
    obtain ⟨p1, p2, p3⟩ := hp
    unfold firstBadF at hb
    split at hb
    · cases hb
    · rename_i hc
      unfold nextG at h1
      cases e1 : foverF f b with
      | error e => rw [e1] at h1; cases h1
      | ok u =>
        rw [e1] at h1
        dsimp only at h1
        cases e2 : sumF u p with
        | error e => rw [e2] at h1; cases h1
        | ok v =>
          rw [e2] at h1
          dsimp only at h1
          cases e3 : nextG b fs ps with
          | error e => rw [e3] at h1; cases h1
          | ok y' =>
            rw [e3] at h1
            injection h1 with h1
            unfold moveG at h2
            cases e4 : pointF f x with
            | error e => rw [e4] at h2; cases h2
            | ok n =>
              rw [e4] at h2
              dsimp only at h2
              split at h2
              · cases e5 : moveG x fs qs with
                | error e => rw [e5] at h2; cases h2
                | ok z' =>
                  rw [e5] at h2
                  injection h2 with h2
                  subst h1; subst h2
                  obtain ⟨n1, n2⟩ := point_has hc hin h3 e1 e4
                  obtain ⟨v1, v2⟩ := sumF_parts e2
                  exact ⟨by omega, by omega, move_in hin h3 fs ps y' qs z' hb p3 e3 e5⟩
              · cases h2
  | _ :: _, [], _, _ :: _, _, _, h, _, _ => h.elim
  | _ :: _, _ :: _, _, [], _, _, h, _, _ => h.elim
theorem next_iso {c b : List Sp} (hp : Parts c b) : ∀ (fs : List (List Tm)) (ps y' : List Sp), (∀ p ∈ ps, p.lo ≤ p.hi) → nextG b fs ps = .ok y' → ∃ y, nextG c fs ps = .ok y ∧ Parts y y'
  | [], ps, y', _, h => by
    unfold nextG at h
    injection h with h
    subst h
    refine ⟨[], ?_, trivial⟩
    unfold nextG
    rfl
  | f :: fs, [], y', _, h => by
    unfold nextG at h
    injection h with h
    subst h
    refine ⟨[], ?_, trivial⟩
    unfold nextG
    rfl
  | f :: fs, p :: ps, y', hps, h => by
    unfold nextG at h
    cases e1 : foverF f b with
    | error e => rw [e1] at h; cases h
    | ok u' =>
      rw [e1] at h
      dsimp only at h
      cases e2 : sumF u' p with
      | error e => rw [e2] at h; cases h
      | ok v' =>
        rw [e2] at h
        dsimp only at h
        cases e3 : nextG b fs ps with
        | error e => rw [e3] at h; cases h
        | ok y2 =>
          rw [e3] at h
          injection h with h
          subst h
          obtain ⟨u, k1, k2, k3⟩ := fover_iso hp e1
          obtain ⟨v, m1, m2, m3⟩ := sum_iso k3 (hps p (by simp)) k2 (Sub.refl p) e2
          obtain ⟨y, r1, r2⟩ := next_iso hp fs ps y2 (fun q hq => hps q (by simp [hq])) e3
          refine ⟨v :: y, ?_, m3, m2, r2⟩
          unfold nextG
          rw [k1]
          dsimp only
          rw [m1]
          dsimp only
          rw [r1]
theorem hasF_ok {b : List Sp} {x : List Int} {v : Bool} (h : hasF b x = .ok v) : Bx b ∧ x.length = b.length ∧ (v = true ↔ Inside b x) := by
  unfold hasF at h
  split at h
  · cases h
  · rename_i hc
    split at h
    · rename_i hl
      injection h with h
      refine ⟨bcheck_bx hc, hl, ?_⟩
      rw [← h]
      exact hasG_inside b x hl
    · cases h
theorem hasF_in {b : List Sp} {x : List Int} (hb : Bx b) (h : Inside b x) : hasF b x = .ok true := by
  unfold hasF
  rw [hb.check]
  dsimp only
  rw [if_pos h.len, (hasG_inside b x h.len).2 h]
theorem hasF_all {b : List Sp} {x : List Int} (hb : Bx b) (hl : x.length = b.length) : ∃ v, hasF b x = .ok v := by
  unfold hasF
  rw [hb.check]
  dsimp only
  rw [if_pos hl]
  exact ⟨_, rfl⟩
theorem next_part {s : Sy} {c b y' : List Sp} (hs : Good s) (hp : Parts c b) (h : nextF s b = .ok y') : ∃ y, nextF s c = .ok y ∧ Parts y y' :=
  next_iso hp s.next s.push y' (fun p hp => (hs.spans p hp).2.2) h
theorem point_ok {s : Sy} {x q z : List Int} (h : ypointF s x q = .ok z) : Good s ∧ x.length = s.next.length ∧ q.length = s.next.length ∧ Inside s.push q ∧ moveG x s.next q = .ok z := by
  unfold ypointF at h
  obtain ⟨h1, h2⟩ := orErr_parts h
  have hg := ycheck_good h1
  split at h2
  · cases h2
  · split at h2
    · cases h2
    · rename_i k1 k2
      obtain ⟨-, h4⟩ := orErr_parts h2
      have k3 : hasG s.push q = true := by cases e : hasG s.push q with
        | true => rfl
        | false => exact absurd e k2
      have k4 : x.length = s.next.length ∧ q.length = s.next.length := by omega
      exact ⟨hg, k4.1, k4.2, (hasG_inside s.push q (by rw [k4.2, hg.push])).1 k3, h4⟩
/-- No point falls out. -/
theorem step_in {s : Sy} {b y : List Sp} {x q z : List Int} (hin : Inside b x) (h1 : nextF s b = .ok y) (h2 : ypointF s x q = .ok z) : Inside y z := by
  obtain ⟨hg, hx, hq, hp, hm⟩ := point_ok h2
  have := hg.few
  exact move_in hin (by omega) s.next s.push y q z hg.forms hp h1 hm
theorem move_len {x : List Int} : ∀ (fs : List (List Tm)) (qs z : List Int), fs.length = qs.length → moveG x fs qs = .ok z → z.length = fs.length
  | [], qs, z, _, h => by
    unfold moveG at h
    injection h with h
    subst h
    rfl
  | f :: fs, [], z, hl, _ => by simp at hl
  | f :: fs, q :: qs, z, hl, h => by
    unfold moveG at h
    cases e1 : pointF f x with
    | error e => rw [e1] at h; cases h
    | ok n =>
      rw [e1] at h
      dsimp only at h
      split at h
      · cases e3 : moveG x fs qs with
        | error e => rw [e3] at h; cases h
        | ok y' =>
          rw [e3] at h
          injection h with h
          subst h
          simp [move_len fs qs y' (by simpa using hl) e3]
      · cases h
theorem path_in {s : Sy} : ∀ (push : List (List Int)) (b : List Sp) (x : List Int) (l : List (List Sp)) (p : List (List Int)), Inside b x → runG s push.length b = .ok l → pathG s push x = .ok p → Along l p
  | [], b, x, l, p, hin, h1, h2 => by
    unfold runG at h1
    unfold pathG at h2
    injection h1 with h1
    injection h2 with h2
    subst h1; subst h2
    exact ⟨hin, trivial⟩
  | q :: push, b, x, l, p, hin, h1, h2 => by
    rw [List.length_cons] at h1
    unfold runG at h1
    unfold pathG at h2
    cases e1 : nextF s b with
    | error e => rw [e1] at h1; cases h1
    | ok c =>
      rw [e1] at h1
      dsimp only at h1
      cases e2 : runG s push.length c with
      | error e => rw [e2] at h1; cases h1
      | ok l' =>
        rw [e2] at h1
        injection h1 with h1
        cases e3 : ypointF s x q with
        | error e => rw [e3] at h2; cases h2
        | ok y =>
          rw [e3] at h2
          dsimp only at h2
          cases e4 : pathG s push y with
          | error e => rw [e4] at h2; cases h2
          | ok p' =>
            rw [e4] at h2
            injection h2 with h2
            subst h1; subst h2
            exact ⟨hin, path_in push c y l' p' (step_in hin e1 e3) e2 e4⟩
theorem path_len {s : Sy} : ∀ (push : List (List Int)) (x : List Int) (p : List (List Int)), pathG s push x = .ok p → p.length = push.length + 1
  | [], x, p, h => by
    unfold pathG at h
    injection h with h
    subst h
    rfl
  | q :: push, x, p, h => by
    unfold pathG at h
    cases e3 : ypointF s x q with
    | error e => rw [e3] at h; cases h
    | ok y =>
      rw [e3] at h
      dsimp only at h
      cases e4 : pathG s push y with
      | error e => rw [e4] at h; cases h
      | ok p' =>
        rw [e4] at h
        injection h with h
        subst h
        simp [path_len push y p' e4]
theorem run_head {s : Sy} : ∀ (n : Nat) (b : List Sp) (l : List (List Sp)), runG s n b = .ok l → ∃ t, l = b :: t
  | 0, b, l, h => by
    unfold runG at h
    injection h with h
    exact ⟨[], h.symm⟩
  | n + 1, b, l, h => by
    unfold runG at h
    cases e1 : nextF s b with
    | error e => rw [e1] at h; cases h
    | ok y =>
      rw [e1] at h
      dsimp only at h
      cases e2 : runG s n y with
      | error e => rw [e2] at h; cases h
      | ok l' =>
        rw [e2] at h
        injection h with h
        exact ⟨l', h.symm⟩
/-- What holds once holds for ever. -/
theorem holds_run {s : Sy} (hs : Good s) : ∀ (n : Nat) (b y : List Sp), nextF s b = .ok y → Parts y b → ∃ l, runG s n b = .ok l ∧ Falls l
  | 0, b, y, _, _ => ⟨[b], rfl, trivial⟩
  | n + 1, b, y, h, hp => by
    obtain ⟨z, h1, h2⟩ := next_part hs hp h
    obtain ⟨l, k1, k2⟩ := holds_run hs n y z h1 h2
    obtain ⟨t, rfl⟩ := run_head n y l k1
    refine ⟨b :: y :: t, ?_, hp, k2⟩
    unfold runG
    rw [h]
    dsimp only
    rw [k1]
theorem holds_path {s : Sy} {b y : List Sp} (h : nextF s b = .ok y) (hp : Parts y b) : ∀ (push : List (List Int)) (x : List Int) (p : List (List Int)), Inside b x → pathG s push x = .ok p → ∀ z ∈ p, Inside b z
  | [], x, p, hin, h2, z, hz => by
    unfold pathG at h2
    injection h2 with h2
    subst h2
    simp at hz
    rw [hz]
    exact hin
  | q :: push, x, p, hin, h2, z, hz => by
    unfold pathG at h2
    cases e3 : ypointF s x q with
    | error e => rw [e3] at h2; cases h2
    | ok y' =>
      rw [e3] at h2
      dsimp only at h2
      cases e4 : pathG s push y' with
      | error e => rw [e4] at h2; cases h2
      | ok p' =>
        rw [e4] at h2
        injection h2 with h2
        subst h2
        rcases List.mem_cons.1 hz with e | e
        · rw [e]; exact hin
        · exact holds_path h hp push y' p' (hp.inside (step_in hin h e3)) e4 z e
abbrev nAt (x : List Int) (i : Nat) : Int := x[i]?.getD 0
theorem inside_iff : ∀ {b : List Sp} {x : List Int}, Inside b x ↔ x.length = b.length ∧ ∀ i, i < b.length → (sAt b i).lo ≤ nAt x i ∧ nAt x i ≤ (sAt b i).hi
  | [], [] => by simp [Inside]
  | [], _ :: _ => by simp [Inside]
  | _ :: _, [] => by simp [Inside]
  | s :: b, n :: x => by
    unfold Inside
    rw [inside_iff (b := b) (x := x)]
    constructor
    · rintro ⟨h1, h2, h3, h4⟩
      refine ⟨by simpa using h3, fun i hi => ?_⟩
      match i with
      | 0 => exact ⟨h1, h2⟩
      | i + 1 => simpa [sAt, nAt] using h4 i (by simpa using hi)
    · rintro ⟨h1, h2⟩
      have h0 := h2 0 (by simp)
      refine ⟨by simpa [sAt, nAt] using h0.1, by simpa [sAt, nAt] using h0.2, by simpa using h1, fun i hi => ?_⟩
      simpa [sAt, nAt] using h2 (i + 1) (by simpa using hi)
theorem halves_in {b : List Sp} (h0 : 0 < b.length) (hb : ∀ s ∈ b, s.lo ≤ s.hi) (x : List Int) : Inside b x ↔ Inside (halvesF b).1 x ∨ Inside (halvesF b).2 x := by
  obtain ⟨l1, l2⟩ := halves_len b
  rw [inside_iff, inside_iff, inside_iff, l1, l2]
  have hw := widestF_lt h0
  have hm := half_mid (hb _ (mem_at hw))
  constructor
  · rintro ⟨k1, k2⟩
    by_cases hq : nAt x (widestF b) ≤ halfF (sAt b (widestF b))
    · refine .inl ⟨k1, fun i hi => ?_⟩
      rw [(halves_at h0 i).1]
      have := k2 i hi
      split
      · rename_i e; subst e; exact ⟨this.1, hq⟩
      · exact this
    · refine .inr ⟨k1, fun i hi => ?_⟩
      rw [(halves_at h0 i).2]
      have := k2 i hi
      split
      · rename_i e; subst e; exact ⟨by dsimp only; omega, this.2⟩
      · exact this
  · rintro (⟨k1, k2⟩ | ⟨k1, k2⟩)
    · refine ⟨k1, fun i hi => ?_⟩
      have := k2 i hi
      rw [(halves_at h0 i).1] at this
      split at this
      · rename_i e; subst e; dsimp only at this; omega
      · exact this
    · refine ⟨k1, fun i hi => ?_⟩
      have := k2 i hi
      rw [(halves_at h0 i).2] at this
      split at this
      · rename_i e; subst e; dsimp only at this; omega
      · exact this
theorem bboth_at {a b : List Sp} {i : Nat} (h : a.length = b.length) (hi : i < a.length) : sAt (bbothF a b) i = bothF (sAt a i) (sAt b i) := by
  unfold sAt bbothF
  rw [List.getElem?_zipWith]
  rw [List.getElem?_eq_getElem hi, List.getElem?_eq_getElem (show i < b.length by omega)]
  rfl
theorem bboth_len {a b : List Sp} (h : a.length = b.length) : (bbothF a b).length = a.length := by simp [bbothF, h]
theorem ext_at {a b : List Sp} (hl : a.length = b.length) (h : ∀ i, i < a.length → sAt a i = sAt b i) : a = b := by
  apply List.ext_getElem hl
  intro i h1 h2
  have := h i h1
  unfold sAt at this
  rw [List.getElem?_eq_getElem h1, List.getElem?_eq_getElem h2] at this
  exact this
theorem halves_hull {b : List Sp} (h0 : 0 < b.length) (hb : ∀ s ∈ b, s.lo ≤ s.hi) : bbothF (halvesF b).1 (halvesF b).2 = b := by
  obtain ⟨l1, l2⟩ := halves_len b
  apply ext_at (by rw [bboth_len (by omega), l1])
  intro i hi
  rw [bboth_len (by omega), l1] at hi
  rw [bboth_at (by omega) (by omega), (halves_at h0 i).1, (halves_at h0 i).2]
  have hs := hb _ (mem_at hi)
  have hm := half_mid hs
  split
  · apply Sp.ext'
    · unfold bothF; dsimp only; omega
    · unfold bothF; dsimp only; omega
  · apply Sp.ext'
    · unfold bothF; dsimp only; omega
    · unfold bothF; dsimp only; omega
theorem hull_parts {a b c : List Sp} (h1 : Parts a c) (h2 : Parts b c) : Parts (bbothF a b) c := by
  rw [parts_iff] at *
  have hl : a.length = b.length := by omega
  refine ⟨by rw [bboth_len hl]; omega, fun i hi => ?_⟩
  rw [bboth_len hl] at hi
  rw [bboth_at hl hi]
  have k1 := h1.2 i hi
  have k2 := h2.2 i (by omega)
  unfold Sub bothF at *
  dsimp only
  omega
theorem parts_hull {a b : List Sp} (hl : a.length = b.length) (ha : ∀ s ∈ a, s.lo ≤ s.hi) (hb : ∀ s ∈ b, s.lo ≤ s.hi) : Parts a (bbothF a b) ∧ Parts b (bbothF a b) := by
  rw [parts_iff, parts_iff]
  refine ⟨⟨by rw [bboth_len hl], fun i hi => ?_⟩, ⟨by rw [bboth_len hl]; omega, fun i hi => ?_⟩⟩
  · rw [bboth_at hl hi]
    have := ha _ (mem_at hi)
    unfold Sub bothF
    dsimp only
    omega
  · rw [bboth_at hl (by omega)]
    have := hb _ (mem_at hi)
    unfold Sub bothF
    dsimp only
    omega
theorem bcom_ok : ∀ {a b m : List Sp} {x : List Int}, a.length = b.length → bcomF a b = .ok m → (Inside m x ↔ Inside a x ∧ Inside b x) ∧ m.length = a.length ∧ ((∀ s ∈ a, Rt s) → (∀ s ∈ b, Rt s) → ∀ s ∈ m, Rt s)
  | [], [], m, x, _, h => by
    unfold bcomF at h
    injection h with h
    subst h
    exact ⟨by simp, rfl, fun _ _ s hs => by cases hs⟩
  | [], _ :: _, _, _, hl, _ => by simp at hl
  | _ :: _, [], _, _, hl, _ => by simp at hl
  | s :: a, t :: b, m, x, hl, h => by
    unfold bcomF at h
    cases e1 : comF s t with
    | error e => rw [e1] at h; cases h
    | ok u =>
      rw [e1] at h
      dsimp only at h
      cases e2 : bcomF a b with
      | error e => rw [e2] at h; cases h
      | ok l =>
        rw [e2] at h
        injection h with h
        subst h
        unfold comF at e1
        split at e1
        · cases e1
        · injection e1 with e1
          subst e1
          refine ⟨?_, ?_, ?_⟩
          · match x with
            | [] => simp [Inside]
            | n :: x =>
              obtain ⟨ih, -, -⟩ := bcom_ok (x := x) (by simpa using hl) e2
              unfold Inside
              dsimp only
              rw [ih]
              constructor
              · rintro ⟨h1, h2, h3, h4⟩
                exact ⟨⟨by omega, by omega, h3⟩, ⟨by omega, by omega, h4⟩⟩
              · rintro ⟨⟨h1, h2, h3⟩, ⟨h4, h5, h6⟩⟩
                exact ⟨by omega, by omega, h3, h6⟩
          · obtain ⟨-, ih, -⟩ := bcom_ok (x := []) (by simpa using hl) e2
            simp [ih]
          · intro ha hb p hp
            obtain ⟨-, -, ih⟩ := bcom_ok (x := []) (by simpa using hl) e2
            rcases List.mem_cons.1 hp with e | e
            · rw [e]
              obtain ⟨⟨a1, a2⟩, ⟨a3, a4⟩, a5⟩ := ha s (by simp)
              obtain ⟨⟨b1, b2⟩, ⟨b3, b4⟩, b5⟩ := hb t (by simp)
              refine ⟨⟨?_, ?_⟩, ⟨?_, ?_⟩, ?_⟩ <;> dsimp only <;> omega
            · exact ih (fun q hq => ha q (by simp [hq])) (fun q hq => hb q (by simp [hq])) p e
theorem bcom_bad : ∀ {a b : List Sp} {x : List Int} {e : Nat}, a.length = b.length → bcomF a b = .error e → ¬ (Inside a x ∧ Inside b x)
  | [], [], _, _, _, h => by unfold bcomF at h; cases h
  | [], _ :: _, _, _, hl, _ => by simp at hl
  | _ :: _, [], _, _, hl, _ => by simp at hl
  | s :: a, t :: b, x, e, hl, h => by
    rintro ⟨h1, h2⟩
    match x, h1, h2 with
    | [], h1, _ => exact h1
    | n :: x, h1, h2 =>
      obtain ⟨a1, a2, a3⟩ := h1
      obtain ⟨b1, b2, b3⟩ := h2
      unfold bcomF at h
      cases e1 : comF s t with
      | error e' =>
        unfold comF at e1
        split at e1
        · omega
        · cases e1
      | ok u =>
        rw [e1] at h
        dsimp only at h
        cases e2 : bcomF a b with
        | error e' => exact bcom_bad (by simpa using hl) e2 ⟨a3, b3⟩
        | ok l => rw [e2] at h; cases h
theorem Parts.self : ∀ {a b : List Sp}, Parts a b → Parts a a
  | [], _, _ => trivial
  | s :: a, [], h => h.elim
  | s :: a, t :: b, h => ⟨h.1, Sub.refl s, Parts.self h.2.2⟩
theorem pieces_ne : ∀ (n : Nat) (b : List Sp), cpiecesG n b ≠ []
  | 0, b => by unfold cpiecesG; simp
  | n + 1, b => by
    unfold cpiecesG
    intro h
    exact pieces_ne n _ (List.append_eq_nil_iff.1 h).1
theorem pieces_pt : ∀ (n : Nat) (b : List Sp) (x : List Int), Bx b → Inside b x → ∃ p ∈ cpiecesG n b, Inside p x
  | 0, b, x, hb, hx => ⟨b, by unfold cpiecesG; simp, hx⟩
  | n + 1, b, x, hb, hx => by
    have hlo : ∀ s ∈ b, s.lo ≤ s.hi := fun s hs => (hb.spans s hs).2.2
    have h1 := halves_bx hb
    unfold cpiecesG
    rcases (halves_in hb.pos hlo x).1 hx with h | h
    · obtain ⟨p, k1, k2⟩ := pieces_pt n _ x h1.1 h
      exact ⟨p, List.mem_append.2 (.inl k1), k2⟩
    · obtain ⟨p, k1, k2⟩ := pieces_pt n _ x h1.2 h
      exact ⟨p, List.mem_append.2 (.inr k1), k2⟩
theorem coverG_ok {s : Sy} (hs : Good s) {b y : List Sp} (hy : nextF s b = .ok y) : ∀ (l : List (List Sp)) (o : Option (List Sp)), (∀ p ∈ l, Parts p b) → (∀ a, o = some a → Parts a y) → (l ≠ [] ∨ o ≠ none) →
    ∃ z, coverG s o l = .ok z ∧ Parts z y ∧ (∀ a, o = some a → Parts a z) ∧ ∀ p ∈ l, ∀ x, nextF s p = .ok x → Parts x z
  | [], o, _, ho, hne => by
    cases o with
    | none => simp at hne
    | some a => exact ⟨a, rfl, ho a rfl, fun a' e => by injection e with e; rw [← e]; exact (ho a rfl).self, fun p hp => by cases hp⟩
  | p :: l, o, hl, ho, _ => by
    obtain ⟨x, h1, h2⟩ := next_part hs (hl p (by simp)) hy
    have hl' : ∀ q ∈ l, Parts q b := fun q hq => hl q (by simp [hq])
    cases o with
    | none =>
      obtain ⟨z, k1, k2, k3, k4⟩ := coverG_ok hs hy l (some x) hl' (fun a e => by injection e with e; rw [← e]; exact h2) (.inr (by simp))
      refine ⟨z, ?_, k2, fun a e => (by cases e), fun q hq u hu => ?_⟩
      · unfold coverG
        rw [h1]
        exact k1
      · rcases List.mem_cons.1 hq with e | e
        · rw [e, h1] at hu
          injection hu with hu
          rw [← hu]; exact k3 x rfl
        · exact k4 q e u hu
    | some a =>
      have ha := ho a rfl
      have hal : a.length = x.length := ha.len.trans h2.len.symm
      obtain ⟨z, k1, k2, k3, k4⟩ := coverG_ok hs hy l (some (bbothF a x)) hl' (fun a' e => by injection e with e; rw [← e]; exact hull_parts ha h2) (.inr (by simp))
      have hh := parts_hull hal ha.lo h2.lo
      refine ⟨z, ?_, k2, fun a' e => ?_, fun q hq u hu => ?_⟩
      · unfold coverG
        rw [h1]
        exact k1
      · injection e with e
        rw [← e]
        exact hh.1.trans (k3 _ rfl)
      · rcases List.mem_cons.1 hq with e | e
        · rw [e, h1] at hu
          injection hu with hu
          rw [← hu]
          exact hh.2.trans (k3 _ rfl)
        · exact k4 q e u hu
theorem ycheck_ne {s : Sy} {x q z : List Int} (h : ypointF s x q = .ok z) : ycheckF s = none := (orErr_parts h).1
/-- A step in pieces: it is told, it is no wider, and no point falls out. -/
theorem cover_ok {s : Sy} {b c y : List Sp} {depth : Int} (hc : ycheckF s = none) (hb : Bx c) (hl : c.length = s.next.length) (hp : Parts c b) (hy : nextF s b = .ok y) (h0 : 0 ≤ depth) (h5 : depth ≤ 5) :
    ∃ z, coverF s c depth = .ok z ∧ Parts z y ∧ ∀ x q u, Inside c x → ypointF s x q = .ok u → Inside z u := by
  have hs := ycheck_good hc
  have ha := pieces_all depth.toNat c hb
  obtain ⟨z, k1, k2, -, k4⟩ := coverG_ok hs hy (cpiecesG depth.toNat c) none (fun p h => (ha p h).2.trans hp) (fun a e => by cases e) (.inl (pieces_ne _ _))
  refine ⟨z, ?_, k2, fun x q u hx hu => ?_⟩
  · unfold coverF cpiecesF
    rw [hc]
    simp only [orErr]
    rw [hb.check]
    simp only [orErr]
    rw [if_neg (by omega)]
    dsimp only
    rw [if_pos hl]
    exact k1
  · obtain ⟨p, m1, m2⟩ := pieces_pt depth.toNat c x hb hx
    obtain ⟨v, n1, n2⟩ := next_part hs ((ha p m1).2.trans hp) hy
    exact (k4 p m1 v n1).inside (step_in m2 n1 hu)
theorem cover_none (s : Sy) (b : List Sp) : coverF s b 0 = ofF s b := by
  unfold coverF ofF readyF cpiecesF
  cases ycheckF s with
  | some e => rfl
  | none =>
    simp only [orErr]
    cases bcheckF b with
    | some e => rfl
    | none =>
      simp only [orErr]
      rw [if_neg (by omega)]
      dsimp only
      by_cases hl : b.length = s.next.length
      · rw [if_pos hl, if_pos hl]
        show coverG s none [b] = _
        unfold coverG
        cases nextF s b with
        | error e => rfl
        | ok x => rfl
      · rw [if_neg hl, if_neg hl]
theorem cover_bad {s : Sy} {b z : List Sp} {depth : Int} (h : coverF s b depth = .ok z) : 0 ≤ depth ∧ depth ≤ 5 := by
  unfold coverF cpiecesF at h
  obtain ⟨-, h1⟩ := orErr_parts h
  cases e : bcheckF b with
  | some n => rw [e] at h1; cases h1
  | none =>
    rw [e] at h1
    simp only [orErr] at h1
    split at h1
    · cases h1
    · rename_i l hh
      split at hh
      · cases hh
      · omega
-- what grows
theorem wider_part {by_ : Int} (h0 : 0 ≤ by_) : ∀ (b c : List Sp), (∀ s ∈ b, s.lo ≤ s.hi) → widerF by_ b = .ok c → Parts b c
  | [], c, _, h => by
    unfold widerF at h
    injection h with h
    rw [← h]
    trivial
  | s :: b, c, hb, h => by
    unfold widerF at h
    split at h
    · cases h
    · split at h
      · cases h
      · rename_i l hl
        injection h with h
        rw [← h]
        exact ⟨hb s (by simp), ⟨by dsimp only; omega, by dsimp only; omega⟩, wider_part h0 b l (fun t ht => hb t (by simp [ht])) hl⟩
theorem isF_ok {s : Sy} {b : List Sp} {v : Bool} (h : isF s b = .ok v) : ∃ y, ofF s b = .ok y ∧ v = inF y b := by
  unfold isF at h
  split at h
  · cases h
  · rename_i x hx
    injection h with h
    exact ⟨x, hx, h.symm⟩
theorem growG_ok {s : Sy} {by_ : Int} (h0 : 0 ≤ by_) : ∀ (n : Nat) (b c : List Sp), growG s by_ n b = .ok c → isF s c = .ok true ∧ Bx b ∧ Parts b c
  | 0, b, c, h => by
    unfold growG at h
    split at h
    · cases h
    · rename_i hi
      injection h with h
      rw [← h]
      obtain ⟨y, h1, -⟩ := isF_ok hi
      obtain ⟨-, hb, -⟩ := of_ok h1
      exact ⟨hi, hb, parts_refl hb.spans⟩
    · cases h
  | n + 1, b, c, h => by
    unfold growG at h
    split at h
    · cases h
    · rename_i x hx
      obtain ⟨hs, hb, hl, hn⟩ := of_ok hx
      split at h
      · rename_i hin
        injection h with h
        rw [← h]
        refine ⟨?_, hb, parts_refl hb.spans⟩
        unfold isF
        rw [hx]
        dsimp only
        rw [hin]
      · split at h
        · cases h
        · rename_i d hd
          obtain ⟨k1, k2, k3⟩ := growG_ok h0 n d c h
          have hx2 := next_bx hs hb hn
          have hh := parts_hull (hl.trans hx2.2.symm) (fun s hs => (hb.spans s hs).2.2) (fun s hs => (hx2.1.spans s hs).2.2)
          have hd2 := wider_part h0 _ d (by
            have := (hull_parts hh.1 hh.2).lo
            exact this) hd
          exact ⟨k1, hb, (hh.1.trans hd2).trans k3⟩
theorem withinF_of {a b : List Sp} (ha : Bx a) (hb : Bx b) (h : Parts a b) : withinF a b = .ok true := by
  unfold withinF btwoF
  rw [ha.check]
  dsimp only
  rw [hb.check]
  dsimp only
  rw [if_pos h.len]
  simp only [orErr]
  rw [h.inF]
/-- What holds: its next box is within it, and it is right. -/
theorem is_parts {s : Sy} {c : List Sp} (h : isF s c = .ok true) : Good s ∧ Bx c ∧ c.length = s.next.length ∧ ycheckF s = none ∧ ∃ y, nextF s c = .ok y ∧ Parts y c := by
  obtain ⟨y, h1, h2⟩ := isF_ok h
  obtain ⟨hs, hb, hl, hn⟩ := of_ok h1
  have hy := next_bx hs hb hn
  have hck : ycheckF s = none := by
    obtain ⟨k1, -⟩ := orErr_parts h1
    unfold readyF at k1
    split at k1
    · cases k1
    · assumption
  exact ⟨hs, hb, hl, hck, y, hn, inF_parts y c (hy.2.trans hl.symm) (fun s hs => (hy.1.spans s hs).2.2) h2.symm⟩
theorem ready_of {s : Sy} {b : List Sp} (hc : ycheckF s = none) (hb : Bx b) (hl : b.length = s.next.length) : readyF s b = none := by
  unfold readyF
  rw [hc]
  dsimp only
  rw [hb.check]
  dsimp only
  rw [if_pos hl]
-- where nothing changes
theorem none_good : Good none_ := ⟨by decide, by decide, rfl, rfl, fun p hp => by
  rw [List.mem_singleton.1 hp]
  exact ⟨⟨by decide, by decide⟩, ⟨by decide, by decide⟩, by decide⟩⟩
theorem one_cube (n : Int) : n * 1000 * 1000000 = n * 1000000000 := by omega
theorem none_point {n : Int} (h : Sm n) : ypointF none_ [n] [0] = .ok [n] := by
  have h0 : Sm 1000 := by unfold Sm; omega
  have hM : M n := by unfold Sm at h; unfold M; omega
  have e1 : exactF ⟨1000, 1, 0, 0⟩ [n] = n * 1000000000 := by
    show (1000 * n ^ 1) * 1000 ^ 2 = _
    rw [Int.pow_succ, Int.pow_zero, Int.one_mul]
    have : (1000 : Int) ^ 2 = 1000000 := by decide
    rw [this, Int.mul_comm 1000 n]
    omega
  have e2 : pointF [⟨1000, 1, 0, 0⟩] [n] = .ok n := by
    unfold pointF
    have e3 : pointG [n] 0 [⟨1000, 1, 0, 0⟩] = .ok (n * 1000000000) := by
      unfold pointG
      rw [if_pos h0, e1, Int.zero_add]
      rfl
    rw [e3]
    have e4 : dn (n * 1000000000) 1000000000 = n := by unfold dn; omega
    dsimp only
    rw [e4, if_pos hM]
  unfold ypointF
  have e5 : ycheckF none_ = none := rfl
  rw [e5]
  simp only [orErr]
  rw [if_neg (by simp [none_]), if_neg (by simp [none_, hasG])]
  have e6 : numbersF [n] = none := by unfold numbersF; rw [if_pos (by simpa using h)]
  rw [e6]
  simp only [orErr]
  show moveG [n] [[⟨1000, 1, 0, 0⟩]] [0] = _
  unfold moveG
  rw [e2]
  dsimp only
  rw [Int.add_zero, if_pos hM]
  rfl
theorem none_far {n : Int} (h : ¬ Sm n) : ypointF none_ [n] [0] = .error 1 := by
  unfold ypointF
  have e5 : ycheckF none_ = none := rfl
  rw [e5]
  simp only [orErr]
  rw [if_neg (by simp [none_]), if_neg (by simp [none_, hasG])]
  have e6 : numbersF [n] = some 1 := by unfold numbersF; rw [if_neg (by simpa using h)]
  rw [e6]
theorem raised_one {a : Sp} (h : Rt a) : raisedF a 1 = .ok a := by
  obtain ⟨h1, h2, h3⟩ := h
  have ha : ∀ n : Int, M n → againF n 1 = .ok (n, n) := fun n hn => by
    have e1 : pup 1000 n = n := by unfold pup up; omega
    have e2 : pdn 1000 n = n := by unfold pdn dn; omega
    show (if M (pup 1000 n) then _ else _) = _
    rw [e1, if_pos hn, e2]
  have hs : ∀ n : Int, M n → signedF n 1 = .ok (n, n) := fun n hn => by
    unfold signedF
    by_cases h0 : 0 ≤ n
    · rw [if_pos h0, ha n hn]
    · rw [if_neg h0, ha (-n) (by unfold M at *; omega)]
      dsimp only
      rw [Int.neg_neg]
  unfold raisedF raisedG
  rw [if_neg (by decide)]
  dsimp only
  rw [hs _ h1]
  dsimp only
  rw [hs _ h2]
theorem prod_one {a : Sp} (h : Rt a) : prodF ⟨1000, 1000⟩ a = .ok a := by
  obtain ⟨h1, h2, h3⟩ := h
  have e1 : ∀ n, pup 1000 n = n := fun n => by unfold pup up; omega
  have e2 : ∀ n, pdn 1000 n = n := fun n => by unfold pdn dn; omega
  unfold prodF cornersF
  simp only [e1, e2, min4, max4]
  have e3 : min (min (min a.lo a.hi) a.lo) a.hi = a.lo := by omega
  have e4 : max (max (max a.lo a.hi) a.lo) a.hi = a.hi := by omega
  rw [e3, e4]
  unfold fitsF
  rw [if_pos ⟨h1, h2⟩]
theorem sum_nought {a b : Sp} (h : Rt a) (hb : b = ⟨0, 0⟩) : sumF b a = .ok a ∧ sumF a b = .ok a := by
  obtain ⟨h1, h2, h3⟩ := h
  subst hb
  unfold sumF fitsF
  simp only [Int.zero_add, Int.add_zero]
  exact ⟨if_pos ⟨h1, h2⟩, if_pos ⟨h1, h2⟩⟩
theorem none_next {a : Sp} (h : Rt a) : nextF none_ [a] = .ok [a] := by
  have e1 : oneF ⟨1000, 1, 0, 0⟩ [a] = .ok a := by
    unfold oneF oneG
    have : (Tm.time ⟨1000, 1, 0, 0⟩ 0).toNat = 1 := rfl
    rw [this, raised_one h]
    dsimp only
    rw [prod_one h]
    rfl
  have e2 : foverF [⟨1000, 1, 0, 0⟩] [a] = .ok a := by
    unfold foverF foverG
    rw [e1]
    dsimp only
    rw [(sum_nought h rfl).1]
    rfl
  show nextG [a] [[⟨1000, 1, 0, 0⟩]] [⟨0, 0⟩] = _
  unfold nextG
  rw [e2]
  dsimp only
  rw [(sum_nought h rfl).2]
  rfl
theorem none_bx {a : Sp} (h : Rt a) : Bx [a] := ⟨by simp, by simp, fun p hp => by rw [List.mem_singleton.1 hp]; exact h⟩
theorem none_ready {a : Sp} (h : Rt a) : readyF none_ [a] = none := ready_of rfl (none_bx h) rfl
theorem bcheck_one {a : Sp} : bcheckF [a] = checkF a := by
  unfold bcheckF
  rw [if_neg (by simp), if_neg (by simp)]
  unfold firstBad
  cases checkF a <;> rfl
theorem none_bad {a : Sp} {e : Nat} (h : checkF a = some e) : readyF none_ [a] = some e := by
  unfold readyF
  have : ycheckF none_ = none := rfl
  rw [this]
  dsimp only
  rw [bcheck_one, h]
theorem none_of {a : Sp} : ofF none_ [a] = match checkF a with | some e => .error e | none => .ok [a] := by
  unfold ofF
  cases h : checkF a with
  | some e => rw [none_bad h]; rfl
  | none =>
    have hr := checkF_none.1 h
    rw [none_ready hr]
    exact none_next hr
theorem in_self : ∀ (b : List Sp), inF b b = true
  | [] => rfl
  | s :: b => by
    unfold inF
    rw [if_neg (by omega)]
    exact in_self b
theorem none_is {a : Sp} (h : Rt a) : isF none_ [a] = .ok true := by
  unfold isF
  rw [none_of, checkF_none.2 h]
  dsimp only
  rw [in_self]
theorem none_grow {a : Sp} (h : Rt a) {by_ : Int} (h0 : 0 ≤ by_) (h1 : by_ ≤ 1000000000) : growF none_ [a] by_ 3 = .ok [a] := by
  unfold growF
  rw [if_neg (by omega)]
  show growG none_ by_ 3 [a] = _
  unfold growG
  rw [none_of, checkF_none.2 h]
  dsimp only
  rw [if_pos (in_self _)]
theorem none_grow_bad {a : Sp} {by_ : Int} (h : by_ < 0 ∨ 1000000000 < by_) : growF none_ [a] by_ 3 = .error 1 := by
  unfold growF
  rw [if_pos (by omega)]
theorem none_bound {a : Sp} (h : Rt a) : boundF none_ [a] = .ok 1000 := by
  unfold boundF
  rw [none_ready h]
  show boundG [a] 0 [[⟨1000, 1, 0, 0⟩]] = _
  have e1 : nsteepG 0 [⟨1000, 1, 0, 0⟩] = .ok [⟨1000, 0, 0, 0⟩] := rfl
  have e2 : foverF [⟨1000, 0, 0, 0⟩] [a] = .ok ⟨1000, 1000⟩ := by
    have r0 : raisedF a 0 = .ok ⟨1000, 1000⟩ := by
      unfold raisedF raisedG signedF
      have : ∀ n, againF n 0 = .ok (1000, 1000) := fun _ => rfl
      simp only [this]
      have hb := h.2.2
      unfold apartF
      have k1 : (0 : Int) ≤ (if zeroF a then 0 else max a.lo (-a.hi)) := by
        split
        · omega
        · rename_i hz
          simp [zeroF] at hz
          omega
      have k2 : (0 : Int) ≤ max a.hi (-a.lo) := by omega
      simp [k1, k2]
    unfold foverF foverG oneF oneG
    have : (Tm.time ⟨1000, 0, 0, 0⟩ 0).toNat = 0 := rfl
    rw [this, r0]
    rfl
  unfold boundG
  have e3 : boneG [⟨1000, 1, 0, 0⟩] [a] 0 [a].length 0 = .ok 1000 := by
    show boneG [⟨1000, 1, 0, 0⟩] [a] 0 1 0 = _
    unfold boneG
    rw [e1]
    dsimp only
    rw [e2]
    rfl
  rw [e3]
  rfl
theorem none_bound_bad {a : Sp} {e : Nat} (h : checkF a = some e) : boundF none_ [a] = .error e := by
  unfold boundF
  rw [none_bad h]
  rfl
/-- Halves of numbers, side by side in a box. -/
def InH : List Sp → List Int → Prop
  | [], [] => True
  | s :: b, n :: x => In s n 2 ∧ InH b x
  | [], _ :: _ => False
  | _ :: _, [] => False
theorem oneG_inH {t : Tm} : ∀ (b : List Sp) (x : List Int) (i : Nat) (s r : Sp) (N D : Int), InH b x → 0 < D → In s N D → oneG t i s b = .ok r → In r (N * powX t i x) (D * 2000 ^ degX t i x)
  | [], [], i, s, r, N, D, _, hD, hs, h => by
    unfold oneG at h
    injection h with h
    subst h
    simpa [powX, degX] using hs
  | c :: b, v :: x, i, s, r, N, D, hin, hD, hs, h => by
    obtain ⟨h1, h3⟩ := hin
    unfold oneG at h
    generalize hk : (t.time i).toNat = k at *
    cases e1 : raisedF c k with
    | error e => rw [e1] at h; cases h
    | ok q =>
      rw [e1] at h
      dsimp only at h
      cases e2 : prodF s q with
      | error e => rw [e2] at h; cases h
      | ok u =>
        rw [e2] at h
        dsimp only at h
        have k1 : In q (1000 * v ^ k) (2000 ^ k) := raised_in (b := 2) (by decide) e1 h1
        have hp : (0 : Int) < 2000 ^ k := Int.pow_pos (by decide)
        have k2 := prod_in e2 (Int.le_of_lt hD) (Int.le_of_lt hp) hs k1
        have k3 : In u (N * v ^ k) (D * 2000 ^ k) := by
          apply in_le (k := 1000) (by decide)
          rw [show N * v ^ k * 1000 = N * (1000 * v ^ k) by grind, show D * 2000 ^ k * 1000 = 1000 * (D * 2000 ^ k) by grind]
          exact k2
        have k4 := oneG_inH b x (i + 1) u r _ _ h3 (Int.mul_pos hD hp) k3 h
        have e4 : N * powX t i (v :: x) = N * v ^ k * powX t (i + 1) x := by simp [powX, hk, Int.mul_assoc]
        have e5 : D * (2000 : Int) ^ degX t i (v :: x) = D * 2000 ^ k * 2000 ^ degX t (i + 1) x := by simp [degX, hk, Int.pow_add, Int.mul_assoc]
        rw [e4, e5]
        exact k4
  | [], _ :: _, _, _, _, _, _, h, _, _, _ => h.elim
  | _ :: _, [], _, _, _, _, _, h, _, _, _ => h.elim
/-- A term at halves, and all terms. -/
def gH (t : Tm) (X : List Int) : Int := t.by_ * powX t 0 X * 2000 ^ (3 - degX t 0 X)
def gS : List Tm → List Int → Int
  | [], _ => 0
  | t :: f, X => gH t X + gS f X
theorem one_atH {t : Tm} {b : List Sp} {X : List Int} {r : Sp} (hin : InH b X) (hd : degX t 0 X ≤ 3) (h : oneF t b = .ok r) : In r (gH t X) 8000000000 := by
  have h1 := oneG_inH b X 0 ⟨t.by_, t.by_⟩ r t.by_ 1 hin (by decide) (in_one (Int.le_refl _) (Int.le_refl _)) h
  have h2 := in_mul (k := 2000 ^ (3 - degX t 0 X)) (Int.pow_nonneg (by decide)) h1
  rw [Int.one_mul, ← Int.pow_add, show degX t 0 X + (3 - degX t 0 X) = 3 by omega] at h2
  exact h2
theorem fover_inH {b : List Sp} {X : List Int} (hin : InH b X) : ∀ (f : List Tm) (s r : Sp) (N : Int), (∀ t ∈ f, degX t 0 X ≤ 3) → foverG b s f = .ok r → In s N 8000000000 → In r (N + gS f X) 8000000000
  | [], s, r, N, _, h1, h => by
    unfold foverG at h1
    injection h1 with h1
    subst h1
    simpa [gS] using h
  | t :: f, s, r, N, hb, h1, h => by
    unfold foverG at h1
    cases e1 : oneF t b with
    | error e => rw [e1] at h1; cases h1
    | ok u =>
      rw [e1] at h1
      dsimp only at h1
      cases e2 : sumF s u with
      | error e => rw [e2] at h1; cases h1
      | ok s' =>
        rw [e2] at h1
        dsimp only at h1
        have := fover_inH hin f s' r _ (fun t ht => hb t (by simp [ht])) h1 (sum_in e2 h (one_atH hin (hb t (by simp)) e1))
        have e : N + gS (t :: f) X = N + gH t X + gS f X := by simp only [gS]; omega
        rw [e]
        exact this
theorem powX_dbl (t : Tm) : ∀ (x : List Int) (i : Nat), powX t i (x.map (2 * ·)) = 2 ^ degX t i x * powX t i x ∧ degX t i (x.map (2 * ·)) = degX t i x
  | [], i => by simp [powX, degX]
  | v :: x, i => by
    obtain ⟨h1, h2⟩ := powX_dbl t x (i + 1)
    refine ⟨?_, by simp [degX, h2]⟩
    simp only [List.map_cons, powX, degX, h1, Int.mul_pow, Int.pow_add]
    rw [mul4]
theorem gH_dbl {t : Tm} {x : List Int} (ht : ∀ i, 0 ≤ t.time i) (hd : degX t 0 x ≤ 3) : gH t (x.map (2 * ·)) = 8 * exactF t x := by
  have e : exactF t x = t.by_ * powX t 0 x * 1000 ^ (3 - degX t 0 x) := exactG_eq ht x 0 _ _ (by omega)
  obtain ⟨h1, h2⟩ := powX_dbl t x 0
  rw [e]
  unfold gH
  rw [h1, h2]
  generalize powX t 0 x = P
  generalize t.by_ = B
  generalize degX t 0 x = d at hd ⊢
  have : d = 0 ∨ d = 1 ∨ d = 2 ∨ d = 3 := by omega
  rcases this with rfl | rfl | rfl | rfl <;> grind
theorem powX_set (t : Tm) : ∀ (X : List Int) (i k : Nat) (u : Int), k < X.length → powX t i (X.set k u) = powX t i (X.set k 1) * u ^ (t.time (i + k)).toNat
  | [], i, k, u, h => by simp at h
  | v :: X, i, 0, u, _ => by
    simp only [List.set_cons_zero, powX, Nat.add_zero, Int.one_pow, Int.one_mul]
    exact Int.mul_comm _ _
  | v :: X, i, k + 1, u, h => by
    simp only [List.set_cons_succ, powX]
    rw [powX_set t X (i + 1) k u (by simpa using h), show i + 1 + k = i + (k + 1) by omega, Int.mul_assoc]
theorem degX_len (t : Tm) : ∀ (X Y : List Int) (i : Nat), X.length = Y.length → degX t i X = degX t i Y
  | [], [], i, _ => rfl
  | v :: X, w :: Y, i, h => by simp only [degX]; rw [degX_len t X Y (i + 1) (by simpa using h)]
  | [], _ :: _, _, h => by simp at h
  | _ :: _, [], _, h => by simp at h
theorem dec_time {t : Tm} {k : Nat} (hk : k < 3) : ∀ j, j < 3 → (t.dec k).time j = if j = k then t.time k - 1 else t.time j := by
  intro j hj
  match k, hk, j, hj with
  | 0, _, 0, _ => rfl
  | 0, _, 1, _ => rfl
  | 0, _, 2, _ => rfl
  | 1, _, 0, _ => rfl
  | 1, _, 1, _ => rfl
  | 1, _, 2, _ => rfl
  | 2, _, 0, _ => rfl
  | 2, _, 1, _ => rfl
  | 2, _, 2, _ => rfl
theorem dec_by {t : Tm} {k : Nat} (hk : k < 3) : (t.dec k).by_ = t.by_ * t.time k := by
  match k, hk with
  | 0, _ => rfl
  | 1, _ => rfl
  | 2, _ => rfl
theorem powX_dec {t : Tm} {k : Nat} (hk : k < 3) : ∀ (X : List Int) (i : Nat), i + X.length ≤ 3 → (∀ h : i ≤ k, True) → powX (t.dec k) i (if i ≤ k then X.set (k - i) 1 else X) = powX t i (if i ≤ k then X.set (k - i) 1 else X)
  | [], i, _, _ => by split <;> rfl
  | v :: X, i, h, _ => by
    have hi : i < 3 := by simp at h; omega
    have ih := powX_dec (t := t) hk X (i + 1) (by simp at h; omega) (fun _ => trivial)
    by_cases h1 : i ≤ k
    · rw [if_pos h1]
      by_cases h2 : i = k
      · subst h2
        rw [if_neg (by omega)] at ih
        rw [Nat.sub_self]
        simp only [List.set_cons_zero, powX, Int.one_pow, ih]
      · rw [if_pos (by omega)] at ih
        have e : k - i = (k - (i + 1)) + 1 := by omega
        rw [e]
        simp only [List.set_cons_succ, powX, ih]
        rw [dec_time hk i hi, if_neg h2]
    · rw [if_neg h1]
      rw [if_neg (by omega)] at ih
      simp only [powX, ih]
      rw [dec_time hk i hi, if_neg (by omega)]
theorem degX_dec {t : Tm} {k : Nat} (hk : k < 3) (h1 : 1 ≤ t.time k) : ∀ (X : List Int) (i : Nat), i + X.length ≤ 3 → degX t i X = degX (t.dec k) i X + (if i ≤ k ∧ k < i + X.length then 1 else 0)
  | [], i, _ => by rw [if_neg (by simp only [List.length_nil]; omega)]; rfl
  | v :: X, i, h => by
    have hi : i < 3 := by simp at h; omega
    have ih := degX_dec hk h1 X (i + 1) (by simp at h; omega)
    simp only [degX]
    rw [ih, dec_time hk i hi]
    by_cases h2 : i = k
    · subst h2
      rw [if_pos rfl, if_neg (by omega), if_pos (by simp)]
      omega
    · rw [if_neg h2]
      by_cases h3 : i + 1 ≤ k ∧ k < i + 1 + X.length
      · rw [if_pos h3, if_pos (by simp; omega)]
        omega
      · rw [if_neg h3, if_neg (by simp; omega)]
        omega
theorem simpson (B R E u v m : Int) (a : Nat) (ha : a = 1 ∨ a = 2 ∨ a = 3) (hm : u + v = 2 * m) :
    12000 * (B * (R * u ^ a) * E - B * (R * v ^ a) * E) = (u - v) * (B * (a : Int) * (R * u ^ (a - 1)) * (2000 * E) + B * (a : Int) * (R * v ^ (a - 1)) * (2000 * E) + 4 * (B * (a : Int) * (R * m ^ (a - 1)) * (2000 * E))) := by
  obtain rfl : v = 2 * m - u := by omega
  rcases ha with rfl | rfl | rfl <;> grind
/-- What a term of an unknown has: its degree, its times. -/
structure Tr (t : Tm) (n : Nat) : Prop where
  times : ∀ i, 0 ≤ t.time i ∧ t.time i ≤ 3
  deg : ∀ X : List Int, X.length = n → degX t 0 X ≤ 3
theorem gH_diff {t : Tm} {X : List Int} {k : Nat} (hk : k < X.length) (h3 : X.length ≤ 3) (ht : Tr t X.length) (hne : t.time k ≠ 0) (u v m : Int) (hm : u + v = 2 * m) :
    12000 * (gH t (X.set k u) - gH t (X.set k v)) = (u - v) * (gH (t.dec k) (X.set k u) + gH (t.dec k) (X.set k v) + 4 * gH (t.dec k) (X.set k m)) ∧ ∀ Y : List Int, Y.length = X.length → degX (t.dec k) 0 Y ≤ 3 := by
  have hk3 : k < 3 := by omega
  obtain ⟨t1, t2⟩ := ht.times k
  have hd := ht.deg X rfl
  have hdd := degX_dec hk3 (by omega : 1 ≤ t.time k) X 0 (by omega)
  rw [if_pos (by omega)] at hdd
  refine ⟨?_, fun Y hY => by rw [degX_len (t.dec k) Y X 0 hY]; omega⟩
  have p1 : ∀ w, powX t 0 (X.set k w) = powX t 0 (X.set k 1) * w ^ (t.time k).toNat := fun w => by
    have := powX_set t X 0 k w hk
    rwa [Nat.zero_add] at this
  have p2 : ∀ w, powX (t.dec k) 0 (X.set k w) = powX t 0 (X.set k 1) * w ^ ((t.time k).toNat - 1) := fun w => by
    have h1 := powX_set (t.dec k) X 0 k w hk
    have h2 := powX_dec (t := t) hk3 X 0 (by omega) (fun _ => trivial)
    rw [if_pos (by omega), Nat.sub_zero] at h2
    rw [Nat.zero_add, h2, dec_time hk3 k hk3, if_pos rfl] at h1
    rw [h1]
    congr 2
    omega
  have p3 : ∀ w, degX t 0 (X.set k w) = degX t 0 X := fun w => degX_len t _ _ 0 (by simp)
  have p4 : ∀ w, degX (t.dec k) 0 (X.set k w) = degX t 0 X - 1 := fun w => by
    rw [degX_len (t.dec k) (X.set k w) X 0 (by simp)]; omega
  unfold gH
  rw [p1 u, p1 v, p2 u, p2 v, p2 m, p3, p3, p4, p4, p4, dec_by hk3]
  have e1 : (2000 : Int) ^ (3 - (degX t 0 X - 1)) = 2000 * 2000 ^ (3 - degX t 0 X) := by
    rw [show 3 - (degX t 0 X - 1) = (3 - degX t 0 X) + 1 by omega, Int.pow_succ, Int.mul_comm]
  rw [e1]
  have e2 : t.time k = ((t.time k).toNat : Int) := by omega
  have ha : (t.time k).toNat = 1 ∨ (t.time k).toNat = 2 ∨ (t.time k).toNat = 3 := by omega
  generalize (t.time k).toNat = a at *
  rw [e2]
  exact simpson t.by_ _ _ u v m a ha hm
theorem gH_same {t : Tm} {X : List Int} {k : Nat} (hk : k < X.length) (h0 : t.time k = 0) (u v : Int) : gH t (X.set k u) = gH t (X.set k v) := by
  have p1 : ∀ w, powX t 0 (X.set k w) = powX t 0 (X.set k 1) := fun w => by
    have := powX_set t X 0 k w hk
    rw [Nat.zero_add, h0] at this
    simpa using this
  have p3 : ∀ w, degX t 0 (X.set k w) = degX t 0 X := fun w => degX_len t _ _ 0 (by simp)
  unfold gH
  rw [p1 u, p1 v, p3, p3]
theorem gS_diff {X : List Int} {k : Nat} (hk : k < X.length) (h3 : X.length ≤ 3) (u v m : Int) (hm : u + v = 2 * m) : ∀ (f d : List Tm), (∀ t ∈ f, Tr t X.length) → nsteepG k f = .ok d →
    12000 * (gS f (X.set k u) - gS f (X.set k v)) = (u - v) * (gS d (X.set k u) + gS d (X.set k v) + 4 * gS d (X.set k m)) ∧ ∀ t ∈ d, ∀ Y : List Int, Y.length = X.length → degX t 0 Y ≤ 3
  | [], d, _, h => by
    unfold nsteepG at h
    injection h with h
    subst h
    exact ⟨by simp [gS], fun t ht => by cases ht⟩
  | t :: f, d, hf, h => by
    unfold nsteepG at h
    split at h
    · rename_i h0
      obtain ⟨k1, k2⟩ := gS_diff hk h3 u v m hm f d (fun t ht => hf t (by simp [ht])) h
      refine ⟨?_, k2⟩
      have := gH_same hk h0 u v
      simp only [gS]
      rw [← k1, this]
      omega
    · rename_i hne
      split at h
      · split at h
        · cases h
        · rename_i r hr
          injection h with h
          subst h
          obtain ⟨k1, k2⟩ := gS_diff hk h3 u v m hm f r (fun t ht => hf t (by simp [ht])) hr
          obtain ⟨m1, m2⟩ := gH_diff hk h3 (hf t (by simp)) hne u v m hm
          refine ⟨?_, fun t' ht' => ?_⟩
          · simp only [gS]
            have e : ∀ a b c a' b' c' : Int, (u - v) * (a + a' + (b + b') + 4 * (c + c')) = (u - v) * (a + b + 4 * c) + (u - v) * (a' + b' + 4 * c') := by intros; grind
            rw [e, ← k1, ← m1]
            omega
          · rcases List.mem_cons.1 ht' with e | e
            · rw [e]; exact m2
            · exact k2 t' e
      · cases h
theorem lip_step {r : Sp} {u v G S1 S2 S3 : Int} (h : 12000 * G = (u - v) * (S1 + S2 + 4 * S3)) (h1 : In r S1 8000000000) (h2 : In r S2 8000000000) (h3 : In r S3 8000000000) (hv : r.lo ≤ r.hi) :
    (G.natAbs : Int) ≤ 4000000 * (((u - v).natAbs : Int) * (apartF r).2) ∧ 0 ≤ (apartF r).2 := by
  unfold In at h1 h2 h3
  have hA : (apartF r).2 = max r.hi (-r.lo) := rfl
  rw [hA]
  have hA0 : 0 ≤ max r.hi (-r.lo) := by omega
  have hl : -(max r.hi (-r.lo)) ≤ r.lo := by omega
  have hh : r.hi ≤ max r.hi (-r.lo) := by omega
  generalize max r.hi (-r.lo) = A at *
  refine ⟨?_, hA0⟩
  have hs : (S1 + S2 + 4 * S3).natAbs ≤ 48000000000 * A.toNat := by omega
  generalize S1 + S2 + 4 * S3 = S at *
  have hn : 12000 * G.natAbs = (u - v).natAbs * S.natAbs := by
    rw [← Int.natAbs_mul, ← h, Int.natAbs_mul]
    rfl
  have hm : (u - v).natAbs * S.natAbs ≤ 48000000000 * ((u - v).natAbs * A.toNat) := by
    have := Nat.mul_le_mul_left (u - v).natAbs hs
    rwa [Nat.mul_left_comm] at this
  have hc : (((u - v).natAbs : Int) * A) = (((u - v).natAbs * A.toNat : Nat) : Int) := by
    rw [Int.natCast_mul, Int.toNat_of_nonneg hA0]
  rw [hc]
  generalize (u - v).natAbs * A.toNat = P at *
  omega
/-- From x to y, a number at a time. -/
def mix (k : Nat) (x y : List Int) : List Int := y.take k ++ x.drop k
theorem mix_len {k : Nat} {x y : List Int} (hl : x.length = y.length) (hk : k ≤ x.length) : (mix k x y).length = x.length := by
  unfold mix
  simp
  omega
theorem mix_at {k : Nat} {x y : List Int} (hl : x.length = y.length) (hk : k < x.length) : mix k x y = (mix k x y).set k (nAt x k) ∧ mix (k + 1) x y = (mix k x y).set k (nAt y k) := by
  have hl1 := mix_len hl (Nat.le_of_lt hk)
  have hl2 := mix_len (k := k + 1) hl hk
  have g : ∀ j, (mix k x y)[j]? = if j < k then y[j]? else x[j]? := fun j => by
    unfold mix
    by_cases h : j < k
    · rw [if_pos h, List.getElem?_append_left (by simp; omega), List.getElem?_take_of_lt h]
    · rw [if_neg h, List.getElem?_append_right (by simp; omega), List.getElem?_drop]
      congr 1
      simp
      omega
  have g2 : ∀ j, (mix (k + 1) x y)[j]? = if j < k + 1 then y[j]? else x[j]? := fun j => by
    unfold mix
    by_cases h : j < k + 1
    · rw [if_pos h, List.getElem?_append_left (by simp; omega), List.getElem?_take_of_lt h]
    · rw [if_neg h, List.getElem?_append_right (by simp; omega), List.getElem?_drop]
      congr 1
      simp
      omega
  constructor
  · refine List.ext_getElem? fun j => ?_
    rw [List.getElem?_set, hl1]
    by_cases h : k = j
    · rw [if_pos h, if_pos hk, ← h, g, if_neg (by omega)]
      unfold nAt
      rw [List.getElem?_eq_getElem hk]
      rfl
    · rw [if_neg h]
  · refine List.ext_getElem? fun j => ?_
    rw [List.getElem?_set, hl1, g2]
    by_cases h : k = j
    · rw [if_pos h, if_pos hk, ← h, if_pos (by omega)]
      unfold nAt
      rw [List.getElem?_eq_getElem (by omega)]
      rfl
    · rw [if_neg h, g]
      by_cases h2 : j < k
      · rw [if_pos (by omega), if_pos h2]
      · rw [if_neg (by omega), if_neg h2]
theorem inH_set : ∀ {b : List Sp} {X : List Int} (k : Nat) (n : Int), InH b X → In (b[k]?.getD ⟨0, 0⟩) n 2 → InH b (X.set k n)
  | [], [], k, n, _, _ => by simp [InH]
  | s :: b, m :: X, 0, n, h, hn => ⟨by simpa using hn, h.2⟩
  | s :: b, m :: X, k + 1, n, h, hn => ⟨h.1, inH_set k n h.2 (by simpa using hn)⟩
  | [], _ :: _, _, _, h, _ => h.elim
  | _ :: _, [], _, _, h, _ => h.elim
theorem inH_dbl : ∀ {b : List Sp} {x : List Int}, Inside b x → InH b (x.map (2 * ·))
  | [], [], _ => trivial
  | s :: b, n :: x, h => ⟨⟨by have := h.1; show s.lo * 2 ≤ 2 * n; omega, by have := h.2.1; show 2 * n ≤ s.hi * 2; omega⟩, inH_dbl h.2.2⟩
  | [], _ :: _, h => h.elim
  | _ :: _, [], h => h.elim
theorem inside_at : ∀ {b : List Sp} {x : List Int}, Inside b x → ∀ k, k < x.length → (b[k]?.getD ⟨0, 0⟩).lo ≤ nAt x k ∧ nAt x k ≤ (b[k]?.getD ⟨0, 0⟩).hi
  | [], [], _, k, h => by simp at h
  | s :: b, n :: x, h, 0, _ => ⟨h.1, h.2.1⟩
  | s :: b, n :: x, h, k + 1, hk => inside_at h.2.2 k (by simpa using hk)
  | [], _ :: _, h, _, _ => h.elim
  | _ :: _, [], h, _, _ => h.elim
theorem inside_mix {b : List Sp} {x y : List Int} (hx : Inside b x) (hy : Inside b y) : ∀ k, k ≤ x.length → Inside b (mix k x y)
  | 0, _ => by simpa [mix] using hx
  | k + 1, hk => by
    have ih := inside_mix hx hy k (by omega)
    have hl : x.length = y.length := hx.len.trans hy.len.symm
    rw [(mix_at hl (by omega)).2]
    have hs : ∀ {b : List Sp} {X : List Int} (k : Nat) (n : Int), Inside b X → (b[k]?.getD ⟨0, 0⟩).lo ≤ n ∧ n ≤ (b[k]?.getD ⟨0, 0⟩).hi → Inside b (X.set k n) := by
      intro b
      induction b with
      | nil => intro X k n h _; cases X with
        | nil => exact h
        | cons => exact h.elim
      | cons s b ihb => intro X k n h hn; cases X with
        | nil => exact h.elim
        | cons m X => cases k with
          | zero => exact ⟨by simpa using hn.1, by simpa using hn.2, h.2.2⟩
          | succ k => exact ⟨h.1, h.2.1, ihb k n h.2.2 (by simpa using hn)⟩
    exact hs k _ ih (inside_at hy k (by omega))
theorem map_set2 (X : List Int) (k : Nat) (n : Int) : (X.set k n).map (2 * ·) = (X.map (2 * ·)).set k (2 * n) := List.map_set
/-- One polynomial: how far apart what it is at two points may be, at the most. -/
theorem bone_lip {f : List Tm} {b : List Sp} {x y : List Int} (hb : ∀ s ∈ b, Rt s) (hx : Inside b x) (hy : Inside b y) (h3 : b.length ≤ 3) (hf : ∀ t ∈ f, Tr t b.length) {far : Int}
    (hfar : ∀ i, i < b.length → ((nAt x i - nAt y i).natAbs : Int) ≤ far) (h0 : 0 ≤ far) : ∀ (n k : Nat) (s m : Int), k + n = b.length → boneG f b k n s = .ok m →
    ((gS f ((mix k x y).map (2 * ·)) - gS f (y.map (2 * ·))).natAbs : Int) ≤ 8000000 * ((m - s) * far)
  | 0, k, s, m, hk, h => by
    unfold boneG at h
    split at h
    · injection h with h
      subst h
      have hl : x.length = y.length := hx.len.trans hy.len.symm
      have e : mix k x y = y := by
        unfold mix
        have h1 := hx.len
        have h2 := hy.len
        rw [List.take_of_length_le (by omega), List.drop_eq_nil_of_le (by omega), List.append_nil]
      rw [e]
      simp
    · cases h
  | n + 1, k, s, m, hk, h => by
    unfold boneG at h
    split at h
    · cases h
    · rename_i d hd
      split at h
      · cases h
      · rename_i r hr
        have hl : x.length = y.length := hx.len.trans hy.len.symm
        have hxl := hx.len
        have hkx : k < x.length := by omega
        have ih := bone_lip hb hx hy h3 hf hfar h0 n (k + 1) _ m (by omega) h
        have hml := mix_len hl (Nat.le_of_lt hkx)
        have hI := inside_mix hx hy k (Nat.le_of_lt hkx)
        have hH := inH_dbl hI
        obtain ⟨a1, a2⟩ := mix_at hl hkx
        have hXl : ((mix k x y).map (2 * ·)).length = b.length := by simp; omega
        obtain ⟨g1, g2⟩ := gS_diff (X := (mix k x y).map (2 * ·)) (k := k) (by omega) (by omega) (2 * nAt x k) (2 * nAt y k) (nAt x k + nAt y k) (by omega) f d (fun t ht => by rw [hXl]; exact hf t ht) hd
        obtain ⟨i1, i2⟩ := inside_at hx k hkx
        obtain ⟨i3, i4⟩ := inside_at hy k (by omega)
        have hin : ∀ v, (b[k]?.getD ⟨0, 0⟩).lo * 2 ≤ v → v ≤ (b[k]?.getD ⟨0, 0⟩).hi * 2 → In r (gS d (((mix k x y).map (2 * ·)).set k v)) 8000000000 := fun v h1 h2 => by
          have := fover_inH (inH_set k v hH ⟨h1, h2⟩) d ⟨0, 0⟩ r 0 (fun t ht => g2 t ht _ (by simp)) hr ⟨by simp, by simp⟩
          rwa [Int.zero_add] at this
        obtain ⟨u2, q1, -, q3⟩ := fover_iso (parts_refl hb) hr
        rw [hr] at q1
        injection q1 with q1
        subst q1
        obtain ⟨w1, w2⟩ := lip_step g1 (hin _ (by omega) (by omega)) (hin _ (by omega) (by omega)) (hin _ (by omega) (by omega)) q3
        rw [← map_set2, ← map_set2, ← a1, ← a2] at w1
        have hff := hfar k (by omega)
        generalize (apartF r).2 = A at *
        have e1 : ((2 * nAt x k - 2 * nAt y k).natAbs : Int) * A ≤ 2 * (A * far) := by
          have e2 : ((2 * nAt x k - 2 * nAt y k).natAbs : Int) ≤ 2 * far := by omega
          have := Int.mul_le_mul_of_nonneg_right e2 w2
          rw [Int.mul_assoc, Int.mul_comm far A] at this
          exact this
        have e3 : (m - s) * far = (m - (s + A)) * far + A * far := by grind
        rw [e3]
        generalize gS f ((mix k x y).map (2 * ·)) = G0 at *
        generalize gS f ((mix (k + 1) x y).map (2 * ·)) = G1 at *
        generalize gS f (y.map (2 * ·)) = G2 at *
        generalize (m - (s + A)) * far = Q at *
        generalize A * far = Z at *
        generalize ((2 * nAt x k - 2 * nAt y k).natAbs : Int) * A = Z2 at *
        omega
theorem pointG_sum {x : List Int} (hx : ∀ (t : Tm), True → True) : ∀ (f : List Tm) (N m : Int), (∀ t ∈ f, (∀ i, 0 ≤ t.time i) ∧ degX t 0 x ≤ 3) → pointG x N f = .ok m → 8 * m = 8 * N + gS f (x.map (2 * ·))
  | [], N, m, _, h => by
    unfold pointG at h
    injection h with h
    subst h
    simp [gS]
  | t :: f, N, m, hf, h => by
    unfold pointG at h
    split at h
    · have := pointG_sum hx f _ m (fun t ht => hf t (by simp [ht])) h
      have h2 := gH_dbl (hf t (by simp)).1 (hf t (by simp)).2
      simp only [gS]
      omega
    · cases h
theorem tr_of {f : List Tm} {k : Int} {n : Nat} (hc : fcheckF f k = none) (hn : n ≤ 3) : ∀ t ∈ f, Tr t n := by
  have hat : ∀ {l : List Tm} {k : Nat}, firstBadT k l = none → ∀ t ∈ l, tcheckF t k = none := by
    intro l
    induction l with
    | nil => intro k _ t ht; cases ht
    | cons u l ih =>
      intro k h t ht
      unfold firstBadT at h
      split at h
      · cases h
      · rcases List.mem_cons.1 ht with e | e
        · rw [e]; assumption
        · exact ih h t e
  intro t ht
  have h := hat (fcheck_ok hc).2.2.2 t ht
  exact ⟨(tcheck_ok h).1, fun X hX => deg_le h X (by omega)⟩
theorem point_lip {f : List Tm} {b : List Sp} {x y : List Int} {k p q n far : Int} (hc : fcheckF f k = none) (hb : ∀ s ∈ b, Rt s) (hx : Inside b x) (hy : Inside b y) (h3 : b.length ≤ 3)
    (hfar : ∀ i, i < b.length → ((nAt x i - nAt y i).natAbs : Int) ≤ far) (h0 : 0 ≤ far) (hn : boneG f b 0 b.length 0 = .ok n) (h1 : pointF f x = .ok p) (h2 : pointF f y = .ok q) :
    ((p - q).natAbs : Int) * 1000 ≤ n * far + 1000 := by
  have ht := tr_of (n := b.length) hc h3
  have hl := bone_lip hb hx hy h3 ht hfar h0 b.length 0 0 n (by omega) hn
  have e0 : mix 0 x y = x := by simp [mix]
  rw [e0, Int.sub_zero] at hl
  have hp : ∀ {z : List Int} {r : Int}, Inside b z → pointF f z = .ok r → ∃ N, 8 * N = gS f (z.map (2 * ·)) ∧ r * 1000000000 ≤ N ∧ N < r * 1000000000 + 1000000000 := by
    intro z r hz h
    unfold pointF at h
    split at h
    · cases h
    · rename_i N hN
      split at h
      · injection h with h
        refine ⟨N, ?_, ?_, ?_⟩
        · have := pointG_sum (fun _ _ => trivial) f 0 N (fun t h => ⟨fun i => ((ht t h).times i).1, (ht t h).deg z hz.len⟩) hN
          omega
        · rw [← h]; exact dn_le N 1000000000 (by decide)
        · rw [← h]; exact lt_dn N 1000000000 (by decide)
      · cases h
  obtain ⟨N1, a1, a2, a3⟩ := hp hx h1
  obtain ⟨N2, c1, c2, c3⟩ := hp hy h2
  generalize gS f (x.map (2 * ·)) = G1 at *
  generalize gS f (y.map (2 * ·)) = G2 at *
  generalize n * far = Z at *
  omega
theorem boundG_all {b : List Sp} : ∀ (fs : List (List Tm)) (m r : Int), boundG b m fs = .ok r → m ≤ r ∧ ∀ f ∈ fs, ∃ n, boneG f b 0 b.length 0 = .ok n ∧ n ≤ r
  | [], m, r, h => by
    unfold boundG at h
    injection h with h
    exact ⟨by omega, fun f hf => by cases hf⟩
  | g :: fs, m, r, h => by
    unfold boundG at h
    split at h
    · cases h
    · rename_i n hn
      obtain ⟨k1, k2⟩ := boundG_all fs _ r h
      refine ⟨by omega, fun f hf => ?_⟩
      rcases List.mem_cons.1 hf with e | e
      · rw [e]; exact ⟨n, hn, by omega⟩
      · exact k2 f e
theorem move_lip {k : Int} {b : List Sp} {x y : List Int} {M_ far : Int} (hb : ∀ s ∈ b, Rt s) (hx : Inside b x) (hy : Inside b y) (h3 : b.length ≤ 3) (hfar : ∀ i, i < b.length → ((nAt x i - nAt y i).natAbs : Int) ≤ far) (h0 : 0 ≤ far) :
    ∀ (fs : List (List Tm)) (qs u v : List Int), firstBadF k fs = none → (∀ f ∈ fs, ∃ n, boneG f b 0 b.length 0 = .ok n ∧ n ≤ M_) → moveG x fs qs = .ok u → moveG y fs qs = .ok v → ∀ i, i < u.length → ((nAt u i - nAt v i).natAbs : Int) * 1000 ≤ M_ * far + 1000
  | [], qs, u, v, _, _, h1, h2, i, hi => by
    unfold moveG at h1
    injection h1 with h1
    subst h1
    simp at hi
  | f :: fs, [], u, v, _, _, h1, h2, i, hi => by
    unfold moveG at h1
    injection h1 with h1
    subst h1
    simp at hi
  | f :: fs, q :: qs, u, v, hc, hm, h1, h2, i, hi => by
    unfold firstBadF at hc
    split at hc
    · cases hc
    · rename_i hcf
      unfold moveG at h1 h2
      split at h1
      · cases h1
      · rename_i p hp
        split at h1
        · split at h1
          · cases h1
          · rename_i u' hu
            injection h1 with h1
            split at h2
            · cases h2
            · rename_i p2 hp2
              split at h2
              · split at h2
                · cases h2
                · rename_i v' hv
                  injection h2 with h2
                  subst h1; subst h2
                  match i, hi with
                  | 0, _ =>
                    obtain ⟨n, n1, n2⟩ := hm f (by simp)
                    have := point_lip hcf hb hx hy h3 hfar h0 n1 hp hp2
                    have e := Int.mul_le_mul_of_nonneg_right n2 h0
                    show ((p + q - (p2 + q)).natAbs : Int) * 1000 ≤ _
                    rw [show p + q - (p2 + q) = p - p2 by omega]
                    omega
                  | i + 1, hi => exact move_lip hb hx hy h3 hfar h0 fs qs u' v' hc (fun g hg => hm g (by simp [hg])) hu hv i (by simpa using hi)
              · cases h2
        · cases h1
theorem boundF_ok {s : Sy} {b : List Sp} {n : Int} (h : boundF s b = .ok n) : Good s ∧ Bx b ∧ b.length = s.next.length ∧ 0 ≤ n ∧ ∀ f ∈ s.next, ∃ m, boneG f b 0 b.length 0 = .ok m ∧ m ≤ n := by
  unfold boundF at h
  obtain ⟨h1, h2⟩ := orErr_parts h
  obtain ⟨a, c, d⟩ := ready_good h1
  obtain ⟨e, f⟩ := boundG_all _ _ _ h2
  exact ⟨a, c, d, e, f⟩
/-- No further apart than the bound says. -/
theorem near_law {s : Sy} {b : List Sp} {x y q u v : List Int} {n far : Int} (h : boundF s b = .ok n) (hx : Inside b x) (hy : Inside b y) (h1 : ypointF s x q = .ok u) (h2 : ypointF s y q = .ok v)
    (hfar : ∀ i, i < x.length → ((nAt x i - nAt y i).natAbs : Int) ≤ far) (h0 : 0 ≤ far) : u.length = v.length ∧ ∀ i, i < u.length → ((nAt u i - nAt v i).natAbs : Int) * 1000 ≤ n * far + 1000 := by
  obtain ⟨hs, hb, hl, hn, hall⟩ := boundF_ok h
  obtain ⟨-, -, hq, -, m1⟩ := point_ok h1
  obtain ⟨-, -, -, -, m2⟩ := point_ok h2
  refine ⟨?_, move_lip hb.spans hx hy hb.few (fun i hi => hfar i (by rw [hx.len]; exact hi)) h0 s.next q u v hs.forms hall m1 m2⟩
  rw [move_len s.next q u hq.symm m1, move_len s.next q v hq.symm m2]
theorem step_law {s : Sy} {b y : List Sp} {x q z : List Int} (h1 : ofF s b = .ok y) (h2 : hasF b x = .ok true) (h3 : ypointF s x q = .ok z) : hasF y z = .ok true := by
  obtain ⟨hs, hb, hl, hn⟩ := of_ok h1
  obtain ⟨-, -, hv⟩ := hasF_ok h2
  exact hasF_in (next_bx hs hb hn).1 (step_in (hv.1 rfl) hn h3)
theorem path_parts {s : Sy} {x : List Int} {push : List (List Int)} {p : List (List Int)} (h : pathF s x push = .ok p) : push.length ≤ 20 ∧ ycheckF s = none ∧ x.length = s.next.length ∧ pathG s push x = .ok p := by
  unfold pathF at h
  split at h
  · cases h
  · obtain ⟨h1, h2⟩ := orErr_parts h
    split at h2
    · cases h2
    · exact ⟨by omega, h1, by omega, h2⟩
theorem flow_law {s : Sy} {b : List Sp} {x : List Int} {push : List (List Int)} {l : List (List Sp)} {p : List (List Int)} (h1 : runF s b push.length = .ok l) (h2 : hasF b x = .ok true) (h3 : pathF s x push = .ok p) :
    p.length = l.length ∧ ∀ i, i < p.length → hasF (l[i]?.getD []) (p[i]?.getD []) = .ok true := by
  obtain ⟨-, -, k1, k2⟩ := run_parts h1
  obtain ⟨-, -, -, k3⟩ := path_parts h3
  obtain ⟨hs, hb, hl⟩ := ready_good k1
  obtain ⟨-, -, hv⟩ := hasF_ok h2
  have e : ((push.length : Int)).toNat = push.length := by simp
  rw [e] at k2
  have hp := path_len push x p k3
  have hr := run_len _ b l k2
  have ha := path_in push b x l p (hv.1 rfl) k2 k3
  refine ⟨by omega, fun i hi => ?_⟩
  have hil : i < l.length := by omega
  exact hasF_in (run_bx hs _ b l hb hl k2 _ (mem_getD hil)).1 (ha.at i hil)
theorem bcom_self : ∀ (b : List Sp), (∀ s ∈ b, s.lo ≤ s.hi) → ∃ m, bcomF b b = .ok m
  | [], _ => ⟨[], rfl⟩
  | s :: b, h => by
    obtain ⟨m, hm⟩ := bcom_self b (fun t ht => h t (by simp [ht]))
    have h0 := h s (by simp)
    refine ⟨⟨max s.lo s.lo, min s.hi s.hi⟩ :: m, ?_⟩
    unfold bcomF comF
    rw [if_neg (by omega)]
    dsimp only
    rw [hm]
theorem first_self {s : Sy} {b : List Sp} {steps i : Int} (h : firstF s b b steps = .ok i) : i = 0 := by
  unfold firstF at h
  obtain ⟨h1, h2⟩ := orErr_parts h
  split at h2
  · cases h2
  · rename_i l hl
    rw [if_pos rfl] at h2
    injection h2 with h2
    obtain ⟨-, -, -, k⟩ := run_parts hl
    obtain ⟨t, rfl⟩ := run_head _ b l k
    obtain ⟨m, hm⟩ := bcom_self b (fun s hs => ((bcheck_bx h1).spans s hs).2.2)
    unfold firstG at h2
    rw [hm] at h2
    exact h2.symm
theorem safe_self (s : Sy) (b : List Sp) (steps : Int) : (∃ e, firstF s b b steps = .error e ∧ whenF s b b steps = .error e ∧ clearF s b b steps = .error e) ∨ (whenF s b b steps = .ok 0 ∧ clearF s b b steps = .ok false) := by
  cases h : firstF s b b steps with
  | error e => exact .inl ⟨e, rfl, by unfold whenF; rw [h], by unfold clearF; rw [h]⟩
  | ok i =>
    have := first_self h
    subst this
    refine .inr ⟨?_, ?_⟩
    · unfold whenF; rw [h]; rfl
    · unfold clearF; rw [h]; rfl
theorem run_none {s : Sy} {b : List Sp} {l : List (List Sp)} (h : runF s b 0 = .ok l) : l = [b] ∧ Bx b ∧ wideF s b 0 = .ok [wideF1 b] ∧ 0 ≤ wideF1 b := by
  obtain ⟨-, -, k1, k2⟩ := run_parts h
  obtain ⟨hs, hb, hl⟩ := ready_good k1
  have e : l = [b] := by
    have : runG s 0 b = .ok l := k2
    unfold runG at this
    injection this with this
    exact this.symm
  refine ⟨e, hb, ?_, ?_⟩
  · unfold wideF
    rw [h, e]
    rfl
  · unfold wideF1 widthF
    have := (hb.spans _ (mem_at (widestF_lt hb.pos))).2.2
    unfold sAt at this
    omega
theorem hold_law {s : Sy} {b c : List Sp} {by_ : Int} {x : List Int} {push : List (List Int)} (h : growF s b by_ 20 = .ok c) : isF s c = .ok true ∧ withinF b c = .ok true ∧ Bx c ∧
    (∃ l, runF s c 6 = .ok l ∧ l.length = 7 ∧ (∀ i, i < 7 → Bx (l[i]?.getD [])) ∧ ∀ i, i + 1 < 7 → withinF (l[i + 1]?.getD []) (l[i]?.getD []) = .ok true) ∧
    ∀ p, pathF s x push = .ok p → hasF c x = .ok true → ∀ i, i < p.length → hasF c (p[i]?.getD []) = .ok true := by
  unfold growF at h
  split at h
  · cases h
  · obtain ⟨h1, hb, hp⟩ := growG_ok (by omega) _ b c h
    obtain ⟨hs, hc, hl, hck, y, hn, hy⟩ := is_parts h1
    refine ⟨h1, withinF_of hb hc hp, hc, ?_, fun p h3 h2 i hi => ?_⟩
    · obtain ⟨l, k1, k2⟩ := holds_run hs 6 c y hn hy
      have hll := run_len 6 c l k1
      have hbx := run_bx hs 6 c l hc hl k1
      refine ⟨l, ?_, by omega, fun i hi => (hbx _ (mem_getD (by omega))).1, fun i hi => ?_⟩
      · unfold runF
        rw [if_neg (by omega), ready_of hck hc hl]
        exact k1
      · exact withinF_of (hbx _ (mem_getD (by omega))).1 (hbx _ (mem_getD (by omega))).1 (k2.at i (by omega))
    · obtain ⟨-, -, hv⟩ := hasF_ok h2
      obtain ⟨-, -, -, k3⟩ := path_parts h3
      exact hasF_in hc (holds_path hn hy push x p (hv.1 rfl) k3 _ (mem_getD hi))
theorem within_parts {a b : List Sp} (h : withinF a b = .ok true) : Bx a ∧ Bx b ∧ Parts a b := by
  unfold withinF at h
  obtain ⟨k1, k2⟩ := orErr_parts h
  injection k2 with k2
  unfold btwoF at k1
  split at k1
  · cases k1
  · rename_i ha
    split at k1
    · cases k1
    · rename_i hb
      split at k1
      · rename_i hl
        exact ⟨bcheck_bx ha, bcheck_bx hb, inF_parts a b hl (fun s hs => ((bcheck_bx ha).spans s hs).2.2) k2⟩
      · cases k1
/-- In pieces: the law of cover.Step. -/
theorem cover_law {s : Sy} {b y : List Sp} {depth : Int} (h : ofF s b = .ok y) : ((depth < 0 ∨ 5 < depth) ∧ coverF s b depth = .error 1) ∨
    (∃ z, coverF s b depth = .ok z ∧ withinF z y = .ok true ∧ ∀ x q u, hasF b x = .ok true → ypointF s x q = .ok u → hasF z u = .ok true) := by
  obtain ⟨hs, hb, hl, hn⟩ := of_ok h
  have hck : ycheckF s = none := by
    obtain ⟨k1, -⟩ := orErr_parts h
    unfold readyF at k1
    split at k1
    · cases k1
    · assumption
  by_cases hd : depth < 0 ∨ 5 < depth
  · refine .inl ⟨hd, ?_⟩
    unfold coverF cpiecesF
    rw [hck]
    simp only [orErr]
    rw [hb.check]
    simp only [orErr]
    rw [if_pos hd]
  · obtain ⟨z, k1, k2, k3⟩ := cover_ok (depth := depth) hck hb hl (parts_refl hb.spans) hn (by omega) (by omega)
    have hy := next_bx hs hb hn
    have hz : Bx z := by
      have h1 := k2.len
      refine ⟨by have := hy.1.pos; omega, by have := hy.1.few; omega, fun p hp => ?_⟩
      obtain ⟨i, hi, rfl⟩ := List.getElem_of_mem hp
      have e1 := (parts_iff.1 k2).2 i hi
      have e2 := hy.1.spans _ (mem_at (show i < y.length by omega))
      have e3 : sAt z i = z[i] := by unfold sAt; rw [List.getElem?_eq_getElem hi]; rfl
      rw [e3] at e1
      obtain ⟨⟨a1, a2⟩, ⟨a3, a4⟩, a5⟩ := e2
      obtain ⟨c1, c2, c3⟩ := e1
      exact ⟨⟨by omega, by omega⟩, ⟨by omega, by omega⟩, c1⟩
    refine .inr ⟨z, k1, withinF_of hz hy.1 k2, fun x q u h1 h2 => ?_⟩
    obtain ⟨-, -, hv⟩ := hasF_ok h1
    exact hasF_in hz (k3 x q u (hv.1 rfl) h2)
theorem path_step {s : Sy} : ∀ (push : List (List Int)) (x : List Int) (p : List (List Int)), pathG s push x = .ok p → (∃ t, p = x :: t) ∧ ∀ i, i + 1 < p.length → ypointF s (p[i]?.getD []) (push[i]?.getD []) = .ok (p[i + 1]?.getD [])
  | [], x, p, h => by
    unfold pathG at h
    injection h with h
    subst h
    exact ⟨⟨[], rfl⟩, fun i hi => by simp at hi⟩
  | q :: push, x, p, h => by
    unfold pathG at h
    split at h
    · cases h
    · rename_i y hy
      split at h
      · cases h
      · rename_i r hr
        injection h with h
        subst h
        obtain ⟨⟨t, rfl⟩, ih⟩ := path_step push y r hr
        refine ⟨⟨_, rfl⟩, fun i hi => ?_⟩
        match i, hi with
        | 0, _ => exact hy
        | i + 1, hi => simpa using ih i (by simpa using hi)
/-- What pulls together: it holds, and two paths with the same pushes stay in it, and come no further apart than the bound says. -/
theorem pull_law {s : Sy} {b : List Sp} {n : Int} (h : pullF s b = .ok true) (hn : boundF s b = .ok n) : isF s b = .ok true ∧ n < 1000 ∧
    ∀ x y push p q, pathF s x push = .ok p → pathF s y push = .ok q → hasF b x = .ok true → hasF b y = .ok true → p.length = q.length ∧ (∀ i, i < p.length → hasF b (p[i]?.getD []) = .ok true ∧ hasF b (q[i]?.getD []) = .ok true) ∧
      ∀ i, i + 1 < p.length → ∀ far, 0 ≤ far → (∀ k, k < b.length → ((nAt (p[i]?.getD []) k - nAt (q[i]?.getD []) k).natAbs : Int) ≤ far) → ∀ k, k < b.length → ((nAt (p[i + 1]?.getD []) k - nAt (q[i + 1]?.getD []) k).natAbs : Int) * 1000 ≤ n * far + 1000 := by
  unfold pullF at h
  rw [hn] at h
  dsimp only at h
  split at h
  · cases h
  · rename_i v hv
    injection h with h
    simp at h
    obtain ⟨rfl, hn1⟩ := h
    obtain ⟨hs, hb, hl, hck, z, hz, hzp⟩ := is_parts hv
    refine ⟨hv, hn1, fun x y push p q hp hq hx hy => ?_⟩
    obtain ⟨-, -, -, p1⟩ := path_parts hp
    obtain ⟨-, -, -, q1⟩ := path_parts hq
    obtain ⟨-, -, ix⟩ := hasF_ok hx
    obtain ⟨-, -, iy⟩ := hasF_ok hy
    have lp := path_len push x p p1
    have lq := path_len push y q q1
    have inp := holds_path hz hzp push x p (ix.1 rfl) p1
    have inq := holds_path hz hzp push y q (iy.1 rfl) q1
    refine ⟨by omega, fun i hi => ⟨hasF_in hb (inp _ (mem_getD hi)), hasF_in hb (inq _ (mem_getD (by omega)))⟩, fun i hi far h0 hf k hk => ?_⟩
    have s1 := (path_step push x p p1).2 i hi
    have s2 := (path_step push y q q1).2 i (by omega)
    have i1 := inp _ (mem_getD (show i < p.length by omega))
    have i2 := inq _ (mem_getD (show i < q.length by omega))
    have i3 := inp _ (mem_getD hi)
    exact (near_law hn i1 i2 s1 s2 (fun k hk => hf k (by rw [← i1.len]; exact hk)) h0).2 k (by rw [i3.len]; exact hk)
/-- What is clear is never met. -/
theorem clear_law {s : Sy} {b bad : List Sp} {n : Nat} {l : List (List Sp)} (h : clearF s b bad n = .ok true) (hl : runF s b n = .ok l) : ∀ i, i < l.length → ∃ e, bcomF (l[i]?.getD []) bad = .error e := by
  unfold clearF firstF at h
  split at h
  · cases h
  · rename_i r hr
    injection h with h
    obtain ⟨-, h2⟩ := orErr_parts hr
    rw [hl] at h2
    dsimp only at h2
    split at h2
    · injection h2 with h2
      have hg : ∀ (l : List (List Sp)) (k : Nat), firstG bad k l < 0 → ∀ i, i < l.length → ∃ e, bcomF (l[i]?.getD []) bad = .error e := by
        intro l
        induction l with
        | nil => intro k _ i hi; simp at hi
        | cons c l ih =>
          intro k hk i hi
          unfold firstG at hk
          split at hk
          · omega
          · rename_i e he
            match i, hi with
            | 0, _ => exact ⟨e, by simpa using he⟩
            | i + 1, hi => simpa using ih (k + 1) hk i (by simpa using hi)
      exact hg l 0 (by rw [h2]; simpa using h)
    · cases h2
theorem clear_ok {s : Sy} {b bad : List Sp} {n : Int} {v : Bool} (h : clearF s b bad n = .ok v) : Bx bad ∧ bad.length = b.length := by
  unfold clearF at h
  split at h
  · cases h
  · rename_i r hr
    unfold firstF at hr
    obtain ⟨h1, h2⟩ := orErr_parts hr
    split at h2
    · cases h2
    · split at h2
      · exact ⟨bcheck_bx h1, by assumption⟩
      · cases h2
end Go.Proofs.YtomfbhohaiffpaaDoor
