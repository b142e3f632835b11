/- Plain laws, no program in sight: how far apart two points are behind a step (Simpson's rule is exact for what is of third degree at the most). -/
import Derived.Test.YtmnbgcbiaapldaaHasi
set_option linter.unusedVariables false
set_option linter.unusedSimpArgs false
namespace Go.Proofs.Ytmnbgcbiaapldaa

/-- Halves of numbers, side by side in a box. -/
def InH : List Sp → List Int → Prop
  | [], [] => True
  | s :: b, n :: x => In s n 2 ∧ InH b x
  | [], _ :: _ => False
  | _ :: _, [] => False
theorem oneG_inH {t : Tm} : ∀ (b : List Sp) (x : List Int) (i : Nat) (s r : Sp) (N D : Int), InH b x → 0 < D → In s N D → oneG t i s b = .ok r → In r (N * powX t i x) (D * 2000 ^ degX t i x)
  | [], [], i, s, r, N, D, _, hD, hs, h => by
    unfold oneG at h
    injection h with h
    subst h
    simpa [powX, degX] using hs
  | c :: b, v :: x, i, s, r, N, D, hin, hD, hs, h => by
    obtain ⟨h1, h3⟩ := hin
    unfold oneG at h
    generalize hk : (t.time i).toNat = k at *
    cases e1 : raisedF c k with
    | error e => rw [e1] at h; cases h
    | ok q =>
      rw [e1] at h
      dsimp only at h
      cases e2 : prodF s q with
      | error e => rw [e2] at h; cases h
      | ok u =>
        rw [e2] at h
        dsimp only at h
        have k1 : In q (1000 * v ^ k) (2000 ^ k) := raised_in (b := 2) (by decide) e1 h1
        have hp : (0 : Int) < 2000 ^ k := Int.pow_pos (by decide)
        have k2 := prod_in e2 (Int.le_of_lt hD) (Int.le_of_lt hp) hs k1
        have k3 : In u (N * v ^ k) (D * 2000 ^ k) := by
          apply in_le (k := 1000) (by decide)
          rw [show N * v ^ k * 1000 = N * (1000 * v ^ k) by grind, show D * 2000 ^ k * 1000 = 1000 * (D * 2000 ^ k) by grind]
          exact k2
        have k4 := oneG_inH b x (i + 1) u r _ _ h3 (Int.mul_pos hD hp) k3 h
        have e4 : N * powX t i (v :: x) = N * v ^ k * powX t (i + 1) x := by simp [powX, hk, Int.mul_assoc]
        have e5 : D * (2000 : Int) ^ degX t i (v :: x) = D * 2000 ^ k * 2000 ^ degX t (i + 1) x := by simp [degX, hk, Int.pow_add, Int.mul_assoc]
        rw [e4, e5]
        exact k4
  | [], _ :: _, _, _, _, _, _, h, _, _, _ => h.elim
  | _ :: _, [], _, _, _, _, _, h, _, _, _ => h.elim
/-- A term at halves, and all terms. -/
def gH (t : Tm) (X : List Int) : Int := t.by_ * powX t 0 X * 2000 ^ (3 - degX t 0 X)
def gS : List Tm → List Int → Int
  | [], _ => 0
  | t :: f, X => gH t X + gS f X
theorem one_atH {t : Tm} {b : List Sp} {X : List Int} {r : Sp} (hin : InH b X) (hd : degX t 0 X ≤ 3) (h : oneF t b = .ok r) : In r (gH t X) 8000000000 := by
  have h1 := oneG_inH b X 0 ⟨t.by_, t.by_⟩ r t.by_ 1 hin (by decide) (in_one (Int.le_refl _) (Int.le_refl _)) h
  have h2 := in_mul (k := 2000 ^ (3 - degX t 0 X)) (Int.pow_nonneg (by decide)) h1
  rw [Int.one_mul, ← Int.pow_add, show degX t 0 X + (3 - degX t 0 X) = 3 by omega] at h2
  exact h2
theorem fover_inH {b : List Sp} {X : List Int} (hin : InH b X) : ∀ (f : List Tm) (s r : Sp) (N : Int), (∀ t ∈ f, degX t 0 X ≤ 3) → foverG b s f = .ok r → In s N 8000000000 → In r (N + gS f X) 8000000000
  | [], s, r, N, _, h1, h => by
    unfold foverG at h1
    injection h1 with h1
    subst h1
    simpa [gS] using h
  | t :: f, s, r, N, hb, h1, h => by
    unfold foverG at h1
    cases e1 : oneF t b with
    | error e => rw [e1] at h1; cases h1
    | ok u =>
      rw [e1] at h1
      dsimp only at h1
      cases e2 : sumF s u with
      | error e => rw [e2] at h1; cases h1
      | ok s' =>
        rw [e2] at h1
        dsimp only at h1
        have := fover_inH hin f s' r _ (fun t ht => hb t (by simp [ht])) h1 (sum_in e2 h (one_atH hin (hb t (by simp)) e1))
        have e : N + gS (t :: f) X = N + gH t X + gS f X := by simp only [gS]; omega
        rw [e]
        exact this
theorem powX_dbl (t : Tm) : ∀ (x : List Int) (i : Nat), powX t i (x.map (2 * ·)) = 2 ^ degX t i x * powX t i x ∧ degX t i (x.map (2 * ·)) = degX t i x
  | [], i => by simp [powX, degX]
  | v :: x, i => by
    obtain ⟨h1, h2⟩ := powX_dbl t x (i + 1)
    refine ⟨?_, by simp [degX, h2]⟩
    simp only [List.map_cons, powX, degX, h1, Int.mul_pow, Int.pow_add]
    rw [mul4]
theorem gH_dbl {t : Tm} {x : List Int} (ht : ∀ i, 0 ≤ t.time i) (hd : degX t 0 x ≤ 3) : gH t (x.map (2 * ·)) = 8 * exactF t x := by
  have e : exactF t x = t.by_ * powX t 0 x * 1000 ^ (3 - degX t 0 x) := exactG_eq ht x 0 _ _ (by omega)
  obtain ⟨h1, h2⟩ := powX_dbl t x 0
  rw [e]
  unfold gH
  rw [h1, h2]
  generalize powX t 0 x = P
  generalize t.by_ = B
  generalize degX t 0 x = d at hd ⊢
  have : d = 0 ∨ d = 1 ∨ d = 2 ∨ d = 3 := by omega
  rcases this with rfl | rfl | rfl | rfl <;> grind
theorem powX_set (t : Tm) : ∀ (X : List Int) (i k : Nat) (u : Int), k < X.length → powX t i (X.set k u) = powX t i (X.set k 1) * u ^ (t.time (i + k)).toNat
  | [], i, k, u, h => by simp at h
  | v :: X, i, 0, u, _ => by
    simp only [List.set_cons_zero, powX, Nat.add_zero, Int.one_pow, Int.one_mul]
    exact Int.mul_comm _ _
  | v :: X, i, k + 1, u, h => by
    simp only [List.set_cons_succ, powX]
    rw [powX_set t X (i + 1) k u (by simpa using h), show i + 1 + k = i + (k + 1) by omega, Int.mul_assoc]
theorem degX_len (t : Tm) : ∀ (X Y : List Int) (i : Nat), X.length = Y.length → degX t i X = degX t i Y
  | [], [], i, _ => rfl
  | v :: X, w :: Y, i, h => by simp only [degX]; rw [degX_len t X Y (i + 1) (by simpa using h)]
  | [], _ :: _, _, h => by simp at h
  | _ :: _, [], _, h => by simp at h
theorem dec_time {t : Tm} {k : Nat} (hk : k < 3) : ∀ j, j < 3 → (t.dec k).time j = if j = k then t.time k - 1 else t.time j := by
  intro j hj
  match k, hk, j, hj with
  | 0, _, 0, _ => rfl
  | 0, _, 1, _ => rfl
  | 0, _, 2, _ => rfl
  | 1, _, 0, _ => rfl
  | 1, _, 1, _ => rfl
  | 1, _, 2, _ => rfl
  | 2, _, 0, _ => rfl
  | 2, _, 1, _ => rfl
  | 2, _, 2, _ => rfl
theorem dec_by {t : Tm} {k : Nat} (hk : k < 3) : (t.dec k).by_ = t.by_ * t.time k := by
  match k, hk with
  | 0, _ => rfl
  | 1, _ => rfl
  | 2, _ => rfl
theorem powX_dec {t : Tm} {k : Nat} (hk : k < 3) : ∀ (X : List Int) (i : Nat), i + X.length ≤ 3 → (∀ h : i ≤ k, True) → powX (t.dec k) i (if i ≤ k then X.set (k - i) 1 else X) = powX t i (if i ≤ k then X.set (k - i) 1 else X)
  | [], i, _, _ => by split <;> rfl
  | v :: X, i, h, _ => by
    have hi : i < 3 := by simp at h; omega
    have ih := powX_dec (t := t) hk X (i + 1) (by simp at h; omega) (fun _ => trivial)
    by_cases h1 : i ≤ k
    · rw [if_pos h1]
      by_cases h2 : i = k
      · subst h2
        rw [if_neg (by omega)] at ih
        rw [Nat.sub_self]
        simp only [List.set_cons_zero, powX, Int.one_pow, ih]
      · rw [if_pos (by omega)] at ih
        have e : k - i = (k - (i + 1)) + 1 := by omega
        rw [e]
        simp only [List.set_cons_succ, powX, ih]
        rw [dec_time hk i hi, if_neg h2]
    · rw [if_neg h1]
      rw [if_neg (by omega)] at ih
      simp only [powX, ih]
      rw [dec_time hk i hi, if_neg (by omega)]
theorem degX_dec {t : Tm} {k : Nat} (hk : k < 3) (h1 : 1 ≤ t.time k) : ∀ (X : List Int) (i : Nat), i + X.length ≤ 3 → degX t i X = degX (t.dec k) i X + (if i ≤ k ∧ k < i + X.length then 1 else 0)
  | [], i, _ => by rw [if_neg (by simp only [List.length_nil]; omega)]; rfl
  | v :: X, i, h => by
    have hi : i < 3 := by simp at h; omega
    have ih := degX_dec hk h1 X (i + 1) (by simp at h; omega)
    simp only [degX]
    rw [ih, dec_time hk i hi]
    by_cases h2 : i = k
    · subst h2
      rw [if_pos rfl, if_neg (by omega), if_pos (by simp)]
      omega
    · rw [if_neg h2]
      by_cases h3 : i + 1 ≤ k ∧ k < i + 1 + X.length
      · rw [if_pos h3, if_pos (by simp; omega)]
        omega
      · rw [if_neg h3, if_neg (by simp; omega)]
        omega
theorem simpson (B R E u v m : Int) (a : Nat) (ha : a = 1 ∨ a = 2 ∨ a = 3) (hm : u + v = 2 * m) :
    12000 * (B * (R * u ^ a) * E - B * (R * v ^ a) * E) = (u - v) * (B * (a : Int) * (R * u ^ (a - 1)) * (2000 * E) + B * (a : Int) * (R * v ^ (a - 1)) * (2000 * E) + 4 * (B * (a : Int) * (R * m ^ (a - 1)) * (2000 * E))) := by
  obtain rfl : v = 2 * m - u := by omega
  rcases ha with rfl | rfl | rfl <;> grind
/-- What a term of an unknown has: its degree, its times. -/
structure Tr (t : Tm) (n : Nat) : Prop where
  times : ∀ i, 0 ≤ t.time i ∧ t.time i ≤ 3
  deg : ∀ X : List Int, X.length = n → degX t 0 X ≤ 3
theorem gH_diff {t : Tm} {X : List Int} {k : Nat} (hk : k < X.length) (h3 : X.length ≤ 3) (ht : Tr t X.length) (hne : t.time k ≠ 0) (u v m : Int) (hm : u + v = 2 * m) :
    12000 * (gH t (X.set k u) - gH t (X.set k v)) = (u - v) * (gH (t.dec k) (X.set k u) + gH (t.dec k) (X.set k v) + 4 * gH (t.dec k) (X.set k m)) ∧ ∀ Y : List Int, Y.length = X.length → degX (t.dec k) 0 Y ≤ 3 := by
  have hk3 : k < 3 := by omega
  obtain ⟨t1, t2⟩ := ht.times k
  have hd := ht.deg X rfl
  have hdd := degX_dec hk3 (by omega : 1 ≤ t.time k) X 0 (by omega)
  rw [if_pos (by omega)] at hdd
  refine ⟨?_, fun Y hY => by rw [degX_len (t.dec k) Y X 0 hY]; omega⟩
  have p1 : ∀ w, powX t 0 (X.set k w) = powX t 0 (X.set k 1) * w ^ (t.time k).toNat := fun w => by
    have := powX_set t X 0 k w hk
    rwa [Nat.zero_add] at this
  have p2 : ∀ w, powX (t.dec k) 0 (X.set k w) = powX t 0 (X.set k 1) * w ^ ((t.time k).toNat - 1) := fun w => by
    have h1 := powX_set (t.dec k) X 0 k w hk
    have h2 := powX_dec (t := t) hk3 X 0 (by omega) (fun _ => trivial)
    rw [if_pos (by omega), Nat.sub_zero] at h2
    rw [Nat.zero_add, h2, dec_time hk3 k hk3, if_pos rfl] at h1
    rw [h1]
    congr 2
    omega
  have p3 : ∀ w, degX t 0 (X.set k w) = degX t 0 X := fun w => degX_len t _ _ 0 (by simp)
  have p4 : ∀ w, degX (t.dec k) 0 (X.set k w) = degX t 0 X - 1 := fun w => by
    rw [degX_len (t.dec k) (X.set k w) X 0 (by simp)]; omega
  unfold gH
  rw [p1 u, p1 v, p2 u, p2 v, p2 m, p3, p3, p4, p4, p4, dec_by hk3]
  have e1 : (2000 : Int) ^ (3 - (degX t 0 X - 1)) = 2000 * 2000 ^ (3 - degX t 0 X) := by
    rw [show 3 - (degX t 0 X - 1) = (3 - degX t 0 X) + 1 by omega, Int.pow_succ, Int.mul_comm]
  rw [e1]
  have e2 : t.time k = ((t.time k).toNat : Int) := by omega
  have ha : (t.time k).toNat = 1 ∨ (t.time k).toNat = 2 ∨ (t.time k).toNat = 3 := by omega
  generalize (t.time k).toNat = a at *
  rw [e2]
  exact simpson t.by_ _ _ u v m a ha hm
theorem gH_same {t : Tm} {X : List Int} {k : Nat} (hk : k < X.length) (h0 : t.time k = 0) (u v : Int) : gH t (X.set k u) = gH t (X.set k v) := by
  have p1 : ∀ w, powX t 0 (X.set k w) = powX t 0 (X.set k 1) := fun w => by
    have := powX_set t X 0 k w hk
    rw [Nat.zero_add, h0] at this
    simpa using this
  have p3 : ∀ w, degX t 0 (X.set k w) = degX t 0 X := fun w => degX_len t _ _ 0 (by simp)
  unfold gH
  rw [p1 u, p1 v, p3, p3]
theorem gS_diff {X : List Int} {k : Nat} (hk : k < X.length) (h3 : X.length ≤ 3) (u v m : Int) (hm : u + v = 2 * m) : ∀ (f d : List Tm), (∀ t ∈ f, Tr t X.length) → nsteepG k f = .ok d →
    12000 * (gS f (X.set k u) - gS f (X.set k v)) = (u - v) * (gS d (X.set k u) + gS d (X.set k v) + 4 * gS d (X.set k m)) ∧ ∀ t ∈ d, ∀ Y : List Int, Y.length = X.length → degX t 0 Y ≤ 3
  | [], d, _, h => by
    unfold nsteepG at h
    injection h with h
    subst h
    exact ⟨by simp [gS], fun t ht => by cases ht⟩
  | t :: f, d, hf, h => by
    unfold nsteepG at h
    split at h
    · rename_i h0
      obtain ⟨k1, k2⟩ := gS_diff hk h3 u v m hm f d (fun t ht => hf t (by simp [ht])) h
      refine ⟨?_, k2⟩
      have := gH_same hk h0 u v
      simp only [gS]
      rw [← k1, this]
      omega
    · rename_i hne
      split at h
      · split at h
        · cases h
        · rename_i r hr
          injection h with h
          subst h
          obtain ⟨k1, k2⟩ := gS_diff hk h3 u v m hm f r (fun t ht => hf t (by simp [ht])) hr
          obtain ⟨m1, m2⟩ := gH_diff hk h3 (hf t (by simp)) hne u v m hm
          refine ⟨?_, fun t' ht' => ?_⟩
          · simp only [gS]
            have e : ∀ a b c a' b' c' : Int, (u - v) * (a + a' + (b + b') + 4 * (c + c')) = (u - v) * (a + b + 4 * c) + (u - v) * (a' + b' + 4 * c') := by intros; grind
            rw [e, ← k1, ← m1]
            omega
          · rcases List.mem_cons.1 ht' with e | e
            · rw [e]; exact m2
            · exact k2 t' e
      · cases h
theorem lip_step {r : Sp} {u v G S1 S2 S3 : Int} (h : 12000 * G = (u - v) * (S1 + S2 + 4 * S3)) (h1 : In r S1 8000000000) (h2 : In r S2 8000000000) (h3 : In r S3 8000000000) (hv : r.lo ≤ r.hi) :
    (G.natAbs : Int) ≤ 4000000 * (((u - v).natAbs : Int) * (apartF r).2) ∧ 0 ≤ (apartF r).2 := by
  unfold In at h1 h2 h3
  have hA : (apartF r).2 = max r.hi (-r.lo) := rfl
  rw [hA]
  have hA0 : 0 ≤ max r.hi (-r.lo) := by omega
  have hl : -(max r.hi (-r.lo)) ≤ r.lo := by omega
  have hh : r.hi ≤ max r.hi (-r.lo) := by omega
  generalize max r.hi (-r.lo) = A at *
  refine ⟨?_, hA0⟩
  have hs : (S1 + S2 + 4 * S3).natAbs ≤ 48000000000 * A.toNat := by omega
  generalize S1 + S2 + 4 * S3 = S at *
  have hn : 12000 * G.natAbs = (u - v).natAbs * S.natAbs := by
    rw [← Int.natAbs_mul, ← h, Int.natAbs_mul]
    rfl
  have hm : (u - v).natAbs * S.natAbs ≤ 48000000000 * ((u - v).natAbs * A.toNat) := by
    have := Nat.mul_le_mul_left (u - v).natAbs hs
    rwa [Nat.mul_left_comm] at this
  have hc : (((u - v).natAbs : Int) * A) = (((u - v).natAbs * A.toNat : Nat) : Int) := by
    rw [Int.natCast_mul, Int.toNat_of_nonneg hA0]
  rw [hc]
  generalize (u - v).natAbs * A.toNat = P at *
  omega
/-- From x to y, a number at a time. -/
def mix (k : Nat) (x y : List Int) : List Int := y.take k ++ x.drop k
theorem mix_len {k : Nat} {x y : List Int} (hl : x.length = y.length) (hk : k ≤ x.length) : (mix k x y).length = x.length := by
  unfold mix
  simp
  omega
theorem mix_at {k : Nat} {x y : List Int} (hl : x.length = y.length) (hk : k < x.length) : mix k x y = (mix k x y).set k (nAt x k) ∧ mix (k + 1) x y = (mix k x y).set k (nAt y k) := by
  have hl1 := mix_len hl (Nat.le_of_lt hk)
  have hl2 := mix_len (k := k + 1) hl hk
  have g : ∀ j, (mix k x y)[j]? = if j < k then y[j]? else x[j]? := fun j => by
    unfold mix
    by_cases h : j < k
    · rw [if_pos h, List.getElem?_append_left (by simp; omega), List.getElem?_take_of_lt h]
    · rw [if_neg h, List.getElem?_append_right (by simp; omega), List.getElem?_drop]
      congr 1
      simp
      omega
  have g2 : ∀ j, (mix (k + 1) x y)[j]? = if j < k + 1 then y[j]? else x[j]? := fun j => by
    unfold mix
    by_cases h : j < k + 1
    · rw [if_pos h, List.getElem?_append_left (by simp; omega), List.getElem?_take_of_lt h]
    · rw [if_neg h, List.getElem?_append_right (by simp; omega), List.getElem?_drop]
      congr 1
      simp
      omega
  constructor
  · refine List.ext_getElem? fun j => ?_
    rw [List.getElem?_set, hl1]
    by_cases h : k = j
    · rw [if_pos h, if_pos hk, ← h, g, if_neg (by omega)]
      unfold nAt
      rw [List.getElem?_eq_getElem hk]
      rfl
    · rw [if_neg h]
  · refine List.ext_getElem? fun j => ?_
    rw [List.getElem?_set, hl1, g2]
    by_cases h : k = j
    · rw [if_pos h, if_pos hk, ← h, if_pos (by omega)]
      unfold nAt
      rw [List.getElem?_eq_getElem (by omega)]
      rfl
    · rw [if_neg h, g]
      by_cases h2 : j < k
      · rw [if_pos (by omega), if_pos h2]
      · rw [if_neg (by omega), if_neg h2]
theorem inH_set : ∀ {b : List Sp} {X : List Int} (k : Nat) (n : Int), InH b X → In (b[k]?.getD ⟨0, 0⟩) n 2 → InH b (X.set k n)
  | [], [], k, n, _, _ => by simp [InH]
  | s :: b, m :: X, 0, n, h, hn => ⟨by simpa using hn, h.2⟩
  | s :: b, m :: X, k + 1, n, h, hn => ⟨h.1, inH_set k n h.2 (by simpa using hn)⟩
  | [], _ :: _, _, _, h, _ => h.elim
  | _ :: _, [], _, _, h, _ => h.elim
theorem inH_dbl : ∀ {b : List Sp} {x : List Int}, Inside b x → InH b (x.map (2 * ·))
  | [], [], _ => trivial
  | s :: b, n :: x, h => ⟨⟨by have := h.1; show s.lo * 2 ≤ 2 * n; omega, by have := h.2.1; show 2 * n ≤ s.hi * 2; omega⟩, inH_dbl h.2.2⟩
  | [], _ :: _, h => h.elim
  | _ :: _, [], h => h.elim
theorem inside_at : ∀ {b : List Sp} {x : List Int}, Inside b x → ∀ k, k < x.length → (b[k]?.getD ⟨0, 0⟩).lo ≤ nAt x k ∧ nAt x k ≤ (b[k]?.getD ⟨0, 0⟩).hi
  | [], [], _, k, h => by simp at h
  | s :: b, n :: x, h, 0, _ => ⟨h.1, h.2.1⟩
  | s :: b, n :: x, h, k + 1, hk => inside_at h.2.2 k (by simpa using hk)
  | [], _ :: _, h, _, _ => h.elim
  | _ :: _, [], h, _, _ => h.elim
theorem inside_mix {b : List Sp} {x y : List Int} (hx : Inside b x) (hy : Inside b y) : ∀ k, k ≤ x.length → Inside b (mix k x y)
  | 0, _ => by simpa [mix] using hx
  | k + 1, hk => by
    have ih := inside_mix hx hy k (by omega)
    have hl : x.length = y.length := hx.len.trans hy.len.symm
    rw [(mix_at hl (by omega)).2]
    have hs : ∀ {b : List Sp} {X : List Int} (k : Nat) (n : Int), Inside b X → (b[k]?.getD ⟨0, 0⟩).lo ≤ n ∧ n ≤ (b[k]?.getD ⟨0, 0⟩).hi → Inside b (X.set k n) := by
      intro b
      induction b with
      | nil => intro X k n h _; cases X with
        | nil => exact h
        | cons => exact h.elim
      | cons s b ihb => intro X k n h hn; cases X with
        | nil => exact h.elim
        | cons m X => cases k with
          | zero => exact ⟨by simpa using hn.1, by simpa using hn.2, h.2.2⟩
          | succ k => exact ⟨h.1, h.2.1, ihb k n h.2.2 (by simpa using hn)⟩
    exact hs k _ ih (inside_at hy k (by omega))
theorem map_set2 (X : List Int) (k : Nat) (n : Int) : (X.set k n).map (2 * ·) = (X.map (2 * ·)).set k (2 * n) := List.map_set
/-- One polynomial: how far apart what it is at two points may be, at the most. -/
theorem bone_lip {f : List Tm} {b : List Sp} {x y : List Int} (hb : ∀ s ∈ b, Rt s) (hx : Inside b x) (hy : Inside b y) (h3 : b.length ≤ 3) (hf : ∀ t ∈ f, Tr t b.length) {far : Int}
    (hfar : ∀ i, i < b.length → ((nAt x i - nAt y i).natAbs : Int) ≤ far) (h0 : 0 ≤ far) : ∀ (n k : Nat) (s m : Int), k + n = b.length → boneG f b k n s = .ok m →
    ((gS f ((mix k x y).map (2 * ·)) - gS f (y.map (2 * ·))).natAbs : Int) ≤ 8000000 * ((m - s) * far)
  | 0, k, s, m, hk, h => by
    unfold boneG at h
    split at h
    · injection h with h
      subst h
      have hl : x.length = y.length := hx.len.trans hy.len.symm
      have e : mix k x y = y := by
        unfold mix
        have h1 := hx.len
        have h2 := hy.len
        rw [List.take_of_length_le (by omega), List.drop_eq_nil_of_le (by omega), List.append_nil]
      rw [e]
      simp
    · cases h
  | n + 1, k, s, m, hk, h => by
    unfold boneG at h
    split at h
    · cases h
    · rename_i d hd
      split at h
      · cases h
      · rename_i r hr
        have hl : x.length = y.length := hx.len.trans hy.len.symm
        have hxl := hx.len
        have hkx : k < x.length := by omega
        have ih := bone_lip hb hx hy h3 hf hfar h0 n (k + 1) _ m (by omega) h
        have hml := mix_len hl (Nat.le_of_lt hkx)
        have hI := inside_mix hx hy k (Nat.le_of_lt hkx)
        have hH := inH_dbl hI
        obtain ⟨a1, a2⟩ := mix_at hl hkx
        have hXl : ((mix k x y).map (2 * ·)).length = b.length := by simp; omega
        obtain ⟨g1, g2⟩ := gS_diff (X := (mix k x y).map (2 * ·)) (k := k) (by omega) (by omega) (2 * nAt x k) (2 * nAt y k) (nAt x k + nAt y k) (by omega) f d (fun t ht => by rw [hXl]; exact hf t ht) hd
        obtain ⟨i1, i2⟩ := inside_at hx k hkx
        obtain ⟨i3, i4⟩ := inside_at hy k (by omega)
        have hin : ∀ v, (b[k]?.getD ⟨0, 0⟩).lo * 2 ≤ v → v ≤ (b[k]?.getD ⟨0, 0⟩).hi * 2 → In r (gS d (((mix k x y).map (2 * ·)).set k v)) 8000000000 := fun v h1 h2 => by
          have := fover_inH (inH_set k v hH ⟨h1, h2⟩) d ⟨0, 0⟩ r 0 (fun t ht => g2 t ht _ (by simp)) hr ⟨by simp, by simp⟩
          rwa [Int.zero_add] at this
        obtain ⟨u2, q1, -, q3⟩ := fover_iso (parts_refl hb) hr
        rw [hr] at q1
        injection q1 with q1
        subst q1
        obtain ⟨w1, w2⟩ := lip_step g1 (hin _ (by omega) (by omega)) (hin _ (by omega) (by omega)) (hin _ (by omega) (by omega)) q3
        rw [← map_set2, ← map_set2, ← a1, ← a2] at w1
        have hff := hfar k (by omega)
        generalize (apartF r).2 = A at *
        have e1 : ((2 * nAt x k - 2 * nAt y k).natAbs : Int) * A ≤ 2 * (A * far) := by
          have e2 : ((2 * nAt x k - 2 * nAt y k).natAbs : Int) ≤ 2 * far := by omega
          have := Int.mul_le_mul_of_nonneg_right e2 w2
          rw [Int.mul_assoc, Int.mul_comm far A] at this
          exact this
        have e3 : (m - s) * far = (m - (s + A)) * far + A * far := by grind
        rw [e3]
        generalize gS f ((mix k x y).map (2 * ·)) = G0 at *
        generalize gS f ((mix (k + 1) x y).map (2 * ·)) = G1 at *
        generalize gS f (y.map (2 * ·)) = G2 at *
        generalize (m - (s + A)) * far = Q at *
        generalize A * far = Z at *
        generalize ((2 * nAt x k - 2 * nAt y k).natAbs : Int) * A = Z2 at *
        omega
theorem pointG_sum {x : List Int} (hx : ∀ (t : Tm), True → True) : ∀ (f : List Tm) (N m : Int), (∀ t ∈ f, (∀ i, 0 ≤ t.time i) ∧ degX t 0 x ≤ 3) → pointG x N f = .ok m → 8 * m = 8 * N + gS f (x.map (2 * ·))
  | [], N, m, _, h => by
    unfold pointG at h
    injection h with h
    subst h
    simp [gS]
  | t :: f, N, m, hf, h => by
    unfold pointG at h
    split at h
    · have := pointG_sum hx f _ m (fun t ht => hf t (by simp [ht])) h
      have h2 := gH_dbl (hf t (by simp)).1 (hf t (by simp)).2
      simp only [gS]
      omega
    · cases h
theorem tr_of {f : List Tm} {k : Int} {n : Nat} (hc : fcheckF f k = none) (hn : n ≤ 3) : ∀ t ∈ f, Tr t n := by
  have hat : ∀ {l : List Tm} {k : Nat}, firstBadT k l = none → ∀ t ∈ l, tcheckF t k = none := by
    intro l
    induction l with
    | nil => intro k _ t ht; cases ht
    | cons u l ih =>
      intro k h t ht
      unfold firstBadT at h
      split at h
      · cases h
      · rcases List.mem_cons.1 ht with e | e
        · rw [e]; assumption
        · exact ih h t e
  intro t ht
  have h := hat (fcheck_ok hc).2.2.2 t ht
  exact ⟨(tcheck_ok h).1, fun X hX => deg_le h X (by omega)⟩
theorem point_lip {f : List Tm} {b : List Sp} {x y : List Int} {k p q n far : Int} (hc : fcheckF f k = none) (hb : ∀ s ∈ b, Rt s) (hx : Inside b x) (hy : Inside b y) (h3 : b.length ≤ 3)
    (hfar : ∀ i, i < b.length → ((nAt x i - nAt y i).natAbs : Int) ≤ far) (h0 : 0 ≤ far) (hn : boneG f b 0 b.length 0 = .ok n) (h1 : pointF f x = .ok p) (h2 : pointF f y = .ok q) :
    ((p - q).natAbs : Int) * 1000 ≤ n * far + 1000 := by
  have ht := tr_of (n := b.length) hc h3
  have hl := bone_lip hb hx hy h3 ht hfar h0 b.length 0 0 n (by omega) hn
  have e0 : mix 0 x y = x := by simp [mix]
  rw [e0, Int.sub_zero] at hl
  have hp : ∀ {z : List Int} {r : Int}, Inside b z → pointF f z = .ok r → ∃ N, 8 * N = gS f (z.map (2 * ·)) ∧ r * 1000000000 ≤ N ∧ N < r * 1000000000 + 1000000000 := by
    intro z r hz h
    unfold pointF at h
    split at h
    · cases h
    · rename_i N hN
      split at h
      · injection h with h
        refine ⟨N, ?_, ?_, ?_⟩
        · have := pointG_sum (fun _ _ => trivial) f 0 N (fun t h => ⟨fun i => ((ht t h).times i).1, (ht t h).deg z hz.len⟩) hN
          omega
        · rw [← h]; exact dn_le N 1000000000 (by decide)
        · rw [← h]; exact lt_dn N 1000000000 (by decide)
      · cases h
  obtain ⟨N1, a1, a2, a3⟩ := hp hx h1
  obtain ⟨N2, c1, c2, c3⟩ := hp hy h2
  generalize gS f (x.map (2 * ·)) = G1 at *
  generalize gS f (y.map (2 * ·)) = G2 at *
  generalize n * far = Z at *
  omega
theorem boundG_all {b : List Sp} : ∀ (fs : List (List Tm)) (m r : Int), boundG b m fs = .ok r → m ≤ r ∧ ∀ f ∈ fs, ∃ n, boneG f b 0 b.length 0 = .ok n ∧ n ≤ r
  | [], m, r, h => by
    unfold boundG at h
    injection h with h
    exact ⟨by omega, fun f hf => by cases hf⟩
  | g :: fs, m, r, h => by
    unfold boundG at h
    split at h
    · cases h
    · rename_i n hn
      obtain ⟨k1, k2⟩ := boundG_all fs _ r h
      refine ⟨by omega, fun f hf => ?_⟩
      rcases List.mem_cons.1 hf with e | e
      · rw [e]; exact ⟨n, hn, by omega⟩
      · exact k2 f e
theorem move_lip {k : Int} {b : List Sp} {x y : List Int} {M_ far : Int} (hb : ∀ s ∈ b, Rt s) (hx : Inside b x) (hy : Inside b y) (h3 : b.length ≤ 3) (hfar : ∀ i, i < b.length → ((nAt x i - nAt y i).natAbs : Int) ≤ far) (h0 : 0 ≤ far) :
    ∀ (fs : List (List Tm)) (qs u v : List Int), firstBadF k fs = none → (∀ f ∈ fs, ∃ n, boneG f b 0 b.length 0 = .ok n ∧ n ≤ M_) → moveG x fs qs = .ok u → moveG y fs qs = .ok v → ∀ i, i < u.length → ((nAt u i - nAt v i).natAbs : Int) * 1000 ≤ M_ * far + 1000
  | [], qs, u, v, _, _, h1, h2, i, hi => by
    unfold moveG at h1
    injection h1 with h1
    subst h1
    simp at hi
  | f :: fs, [], u, v, _, _, h1, h2, i, hi => by
    unfold moveG at h1
    injection h1 with h1
    subst h1
    simp at hi
  | f :: fs, q :: qs, u, v, hc, hm, h1, h2, i, hi => by
    unfold firstBadF at hc
    split at hc
    · cases hc
    · rename_i hcf
      unfold moveG at h1 h2
      split at h1
      · cases h1
      · rename_i p hp
        split at h1
        · split at h1
          · cases h1
          · rename_i u' hu
            injection h1 with h1
            split at h2
            · cases h2
            · rename_i p2 hp2
              split at h2
              · split at h2
                · cases h2
                · rename_i v' hv
                  injection h2 with h2
                  subst h1; subst h2
                  match i, hi with
                  | 0, _ =>
                    obtain ⟨n, n1, n2⟩ := hm f (by simp)
                    have := point_lip hcf hb hx hy h3 hfar h0 n1 hp hp2
                    have e := Int.mul_le_mul_of_nonneg_right n2 h0
                    show ((p + q - (p2 + q)).natAbs : Int) * 1000 ≤ _
                    rw [show p + q - (p2 + q) = p - p2 by omega]
                    omega
                  | i + 1, hi => exact move_lip hb hx hy h3 hfar h0 fs qs u' v' hc (fun g hg => hm g (by simp [hg])) hu hv i (by simpa using hi)
              · cases h2
        · cases h1
theorem boundF_ok {s : Sy} {b : List Sp} {n : Int} (h : boundF s b = .ok n) : Good s ∧ Bx b ∧ b.length = s.next.length ∧ 0 ≤ n ∧ ∀ f ∈ s.next, ∃ m, boneG f b 0 b.length 0 = .ok m ∧ m ≤ n := by
  unfold boundF at h
  obtain ⟨h1, h2⟩ := orErr_parts h
  obtain ⟨a, c, d⟩ := ready_good h1
  obtain ⟨e, f⟩ := boundG_all _ _ _ h2
  exact ⟨a, c, d, e, f⟩
/-- No further apart than the bound says. -/
theorem near_law {s : Sy} {b : List Sp} {x y q u v : List Int} {n far : Int} (h : boundF s b = .ok n) (hx : Inside b x) (hy : Inside b y) (h1 : ypointF s x q = .ok u) (h2 : ypointF s y q = .ok v)
    (hfar : ∀ i, i < x.length → ((nAt x i - nAt y i).natAbs : Int) ≤ far) (h0 : 0 ≤ far) : u.length = v.length ∧ ∀ i, i < u.length → ((nAt u i - nAt v i).natAbs : Int) * 1000 ≤ n * far + 1000 := by
  obtain ⟨hs, hb, hl, hn, hall⟩ := boundF_ok h
  obtain ⟨-, -, hq, -, m1⟩ := point_ok h1
  obtain ⟨-, -, -, -, m2⟩ := point_ok h2
  refine ⟨?_, move_lip hb.spans hx hy hb.few (fun i hi => hfar i (by rw [hx.len]; exact hi)) h0 s.next q u v hs.forms hall m1 m2⟩
  rw [move_len s.next q u hq.symm m1, move_len s.next q v hq.symm m2]
end Go.Proofs.Ytmnbgcbiaapldaa
