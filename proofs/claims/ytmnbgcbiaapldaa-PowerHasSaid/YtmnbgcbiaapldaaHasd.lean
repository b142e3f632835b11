/- Plain laws: pieces of a span, roots that are found, and Newton's steps: no root is lost. -/
import Derived.Test.YtmnbgcbiaapldaaHasc
set_option linter.unusedVariables false
set_option linter.unusedSimpArgs false
namespace Go.Proofs.Ytmnbgcbiaapldaa

theorem pieceEnd_zero (x : Sp) (m : Int) : pieceEnd x m 0 = x.lo := by simp [pieceEnd]
theorem pieceEnd_last (x : Sp) (m : Nat) (h : 0 < m) : pieceEnd x m m = x.hi := by
  unfold pieceEnd
  rw [Int.mul_ediv_cancel _ (by omega)]
  omega
theorem pieceEnd_mono (x : Sp) (m : Nat) (hx : x.lo ≤ x.hi) (h : 0 < m) (i : Nat) : pieceEnd x m i ≤ pieceEnd x m (i + 1) := by
  unfold pieceEnd
  have : (x.hi - x.lo) * (i : Int) ≤ (x.hi - x.lo) * ((i + 1 : Nat) : Int) := Int.mul_le_mul_of_nonneg_left (by omega) (by omega)
  have := Int.ediv_le_ediv (show (0 : Int) < m by omega) this
  omega
/-- A number between the first end and the last one is in a piece. -/
theorem pieces_cover (f : Nat → Int) (n : Int) : ∀ m : Nat, 0 < m → f 0 ≤ n → n ≤ f m → ∃ i, i < m ∧ f i ≤ n ∧ n ≤ f (i + 1)
  | 0, h, _, _ => absurd h (by omega)
  | m + 1, _, h1, h2 => by
    by_cases h : f m ≤ n
    · exact ⟨m, by omega, h, h2⟩
    · by_cases h0 : 0 < m
      · obtain ⟨i, hi, a, b⟩ := pieces_cover f n m h0 h1 (by omega)
        exact ⟨i, by omega, a, b⟩
      · obtain rfl : m = 0 := by omega
        exact absurd h1 h
theorem in_both {a b : Sp} {N D : Int} (hD : 0 ≤ D) (h : In a N D ∨ In b N D) : In (bothF a b) N D := by
  unfold In bothF at *
  dsimp only
  have mono : ∀ {p q : Int}, p ≤ q → p * D ≤ q * D := fun h => Int.mul_le_mul_of_nonneg_right h hD
  have a1 := mono (Int.min_le_left a.lo b.lo); have a2 := mono (Int.min_le_right a.lo b.lo)
  have a3 := mono (Int.le_max_left a.hi b.hi); have a4 := mono (Int.le_max_right a.hi b.hi)
  omega
theorem overAll_at {p : List Int} {n : Int} (h0 : 0 < p.length) (h5 : p.length ≤ 5) : ∀ (l : List Sp) (o : Option Sp) (s : Sp), overAllF p o l = .ok s →
    ((∃ t, o = some t ∧ In t (exP n p) 1000000000000) ∨ ∃ y ∈ l, y.lo ≤ n ∧ n ≤ y.hi) → In s (exP n p) 1000000000000
  | [], o, s, h, hh => by
    unfold overAllF at h
    injection h with h
    rcases hh with ⟨t, rfl, ht⟩ | ⟨y, hy, _⟩
    · simp at h; subst h; exact ht
    · cases hy
  | y :: l, o, s, h, hh => by
    unfold overAllF at h
    split at h
    · cases h
    · rename_i r hr
      refine overAll_at h0 h5 l _ s h ?_
      rcases hh with ⟨t, rfl, ht⟩ | ⟨z, hz, hn⟩
      · exact .inl ⟨_, rfl, in_both (by decide) (.inl ht)⟩
      · rcases List.mem_cons.1 hz with e | e
        · subst e
          have := over_at h0 h5 hr hn
          cases o with
          | none => exact .inl ⟨_, rfl, this⟩
          | some t => exact .inl ⟨_, rfl, in_both (by decide) (.inr this)⟩
        · exact .inr ⟨z, e, hn⟩

/-- Spans from lo to hi, one behind the other, none wider than least. -/
def Chain (least : Int) : Int → Int → List Sp → Prop
  | lo, hi, [] => lo ≤ hi
  | lo, hi, s :: l => lo ≤ s.lo ∧ s.lo ≤ s.hi ∧ s.hi - s.lo ≤ least ∧ Chain least s.hi hi l
theorem Chain.low {least : Int} : ∀ {l : List Sp} {lo lo' hi : Int}, Chain least lo hi l → lo' ≤ lo → Chain least lo' hi l
  | [], _, _, _, h, h' => Int.le_trans h' h
  | _ :: _, _, _, _, h, h' => ⟨Int.le_trans h' h.1, h.2⟩
theorem Chain.le {least : Int} : ∀ {l : List Sp} {lo hi : Int}, Chain least lo hi l → lo ≤ hi
  | [], _, _, h => h
  | _ :: _, _, _, h => by have := h.2.2.2.le; have := h.1; have := h.2.1; omega
theorem Chain.append {least : Int} : ∀ {l l' : List Sp} {lo m hi : Int}, Chain least lo m l → Chain least m hi l' → Chain least lo hi (l ++ l')
  | [], _, _, _, _, h, h' => h'.low h
  | _ :: _, _, _, _, _, h, h' => ⟨h.1, h.2.1, h.2.2.1, h.2.2.2.append h'⟩
theorem Chain.mem {least : Int} : ∀ {l : List Sp} {lo hi : Int}, Chain least lo hi l → ∀ s ∈ l, lo ≤ s.lo ∧ s.lo ≤ s.hi ∧ s.hi ≤ hi ∧ s.hi - s.lo ≤ least
  | [], _, _, _, _, hs => by cases hs
  | t :: l, lo, hi, h, s, hs => by
    rcases List.mem_cons.1 hs with e | e
    · subst e
      exact ⟨h.1, h.2.1, h.2.2.2.le, h.2.2.1⟩
    · have := h.2.2.2.mem s e
      have := h.1; have := h.2.1
      omega
theorem Chain.next {least : Int} : ∀ {l : List Sp} {lo hi : Int}, Chain least lo hi l → ∀ i, i + 1 < l.length → (l[i]?.getD ⟨0, 0⟩).hi ≤ (l[i + 1]?.getD ⟨0, 0⟩).lo
  | [], _, _, _, i, hi => by simp at hi
  | [t], _, _, _, i, hi => by simp at hi
  | t :: u :: l, lo, hi, h, 0, _ => by simpa using h.2.2.2.1
  | t :: u :: l, lo, hi, h, i + 1, hi' => by
    have := h.2.2.2.next i (by simp at hi' ⊢; omega)
    simpa using this
theorem zero_iff {s : Sp} {N D : Int} (hD : 0 < D) (h : In s N D) (h0 : N = 0) : zeroF s = true := by
  subst h0
  unfold In at h
  have a1 : s.lo * D ≤ 0 * D := by omega
  have a2 : 0 * D ≤ s.hi * D := by omega
  have := Int.le_of_mul_le_mul_right a1 hD
  have := Int.le_of_mul_le_mul_right a2 hD
  simp [zeroF]; omega
theorem zero_two {s : Sp} {N N' D : Int} (hD : 0 < D) (h : In s N D) (h' : In s N' D) (h0 : N ≤ 0) (h1 : 0 ≤ N') : zeroF s = true := by
  unfold In at h h'
  have a1 : s.lo * D ≤ 0 * D := by omega
  have a2 : 0 * D ≤ s.hi * D := by omega
  have := Int.le_of_mul_le_mul_right a1 hD
  have := Int.le_of_mul_le_mul_right a2 hD
  simp [zeroF]; omega
/-- Does the sign turn between both ends? -/
def Turns (p : List Int) (x : Sp) : Prop := (exP x.lo p ≤ 0 ∧ 0 ≤ exP x.hi p) ∨ (0 ≤ exP x.lo p ∧ exP x.hi p ≤ 0)
theorem turns_half {p : List Int} {x : Sp} (h : Turns p x) : Turns p ⟨x.lo, halfF x⟩ ∨ Turns p ⟨halfF x, x.hi⟩ := by
  unfold Turns at *
  dsimp only
  rcases Int.le_total (exP (halfF x) p) 0 with c | c <;> rcases h with h | h <;> omega
theorem find_law {p : List Int} {least : Int} (h0 : 0 < p.length) (h5 : p.length ≤ 5) : ∀ (f : Nat) (x : Sp) (out o : List Sp), x.lo ≤ x.hi → findG p least f x out = .ok o →
    ∃ l, o = out ++ l ∧ Chain least x.lo x.hi l ∧ (∀ n, x.lo ≤ n → n ≤ x.hi → exP n p = 0 → ∃ s ∈ l, s.lo ≤ n ∧ n ≤ s.hi) ∧ (Turns p x → l ≠ []) ∧ (out.length ≤ 32 → o.length ≤ 32) := by
  intro f
  induction f with
  | zero =>
    intro x out o hx h
    unfold findG at h
    split at h
    · cases h
    · rename_i s hs
      split at h
      · rename_i hz
        injection h with h
        subst h
        refine ⟨[], by simp, hx, fun n h1 h2 h3 => ?_, fun ht => ?_, fun h => h⟩
        · have := zero_iff (by decide) (over_at h0 h5 hs ⟨h1, h2⟩) h3
          rw [hz] at this; cases this
        · have i1 := over_at (n := x.lo) h0 h5 hs ⟨Int.le_refl _, hx⟩
          have i2 := over_at (n := x.hi) h0 h5 hs ⟨hx, Int.le_refl _⟩
          have : zeroF s = true := by
            rcases ht with ht | ht
            · exact zero_two (by decide) i1 i2 ht.1 ht.2
            · exact zero_two (by decide) i2 i1 ht.2 ht.1
          rw [hz] at this; cases this
      · split at h
        · split at h
          · cases h
          · rename_i hw hl
            injection h with h
            subst h
            exact ⟨[x], rfl, ⟨Int.le_refl _, hx, hw, Int.le_refl _⟩, fun n h1 h2 _ => ⟨x, by simp, h1, h2⟩, fun _ => by simp, fun h => by simp; omega⟩
        · cases h
  | succ f ih =>
    intro x out o hx h
    unfold findG at h
    split at h
    · cases h
    · rename_i s hs
      split at h
      · rename_i hz
        injection h with h
        subst h
        refine ⟨[], by simp, hx, fun n h1 h2 h3 => ?_, fun ht => ?_, fun h => h⟩
        · have := zero_iff (by decide) (over_at h0 h5 hs ⟨h1, h2⟩) h3
          rw [hz] at this; cases this
        · have i1 := over_at (n := x.lo) h0 h5 hs ⟨Int.le_refl _, hx⟩
          have i2 := over_at (n := x.hi) h0 h5 hs ⟨hx, Int.le_refl _⟩
          have : zeroF s = true := by
            rcases ht with ht | ht
            · exact zero_two (by decide) i1 i2 ht.1 ht.2
            · exact zero_two (by decide) i2 i1 ht.2 ht.1
          rw [hz] at this; cases this
      · split at h
        · split at h
          · cases h
          · rename_i hw hl
            injection h with h
            subst h
            exact ⟨[x], rfl, ⟨Int.le_refl _, hx, hw, Int.le_refl _⟩, fun n h1 h2 _ => ⟨x, by simp, h1, h2⟩, fun _ => by simp, fun h => by simp; omega⟩
        · dsimp only at h
          split at h
          · cases h
          · rename_i o1 ho1
            have hh := half_in hx
            obtain ⟨l1, e1, c1, n1, t1, b1⟩ := ih ⟨x.lo, halfF x⟩ out o1 hh.1 ho1
            obtain ⟨l2, e2, c2, n2, t2, b2⟩ := ih ⟨halfF x, x.hi⟩ o1 o hh.2 h
            refine ⟨l1 ++ l2, by rw [e2, e1, List.append_assoc], c1.append c2, fun n k1 k2 k3 => ?_, fun ht => ?_, fun h => b2 (b1 h)⟩
            · rcases Int.le_total n (halfF x) with c | c
              · obtain ⟨s, hs, hn⟩ := n1 n k1 c k3
                exact ⟨s, by simp [hs], hn⟩
              · obtain ⟨s, hs, hn⟩ := n2 n c k2 k3
                exact ⟨s, by simp [hs], hn⟩
            · rcases turns_half ht with h' | h'
              · intro e; exact t1 h' (List.append_eq_nil_iff.1 e).1
              · intro e; exact t2 h' (List.append_eq_nil_iff.1 e).2

/-- What a quotient is round. -/
theorem qdn_le {x y : Int} (h : y ≠ 0) : (0 < y → qdn x y * y ≤ 1000 * x ∧ 1000 * x ≤ qup x y * y) ∧ (y < 0 → 1000 * x ≤ qdn x y * y ∧ qup x y * y ≤ 1000 * x) := by
  unfold qdn qup
  refine ⟨fun hy => ?_, fun hy => ?_⟩
  · rw [if_neg (by omega), if_neg (by omega)]
    have := dn_le (x * 1000) y hy
    have := up_ge (x * 1000) y hy
    omega
  · rw [if_pos hy, if_pos hy]
    have h1 := dn_le (-x * 1000) (-y) (by omega)
    have h2 := up_ge (-x * 1000) (-y) (by omega)
    rw [Int.mul_neg] at h1 h2
    omega
/-- A number that is the quotient lies in the quotient's span. -/
theorem quo_in {a d q : Sp} {N D T B k : Int} (h : quoF a d = .ok q) (hd : d.lo ≤ d.hi) (hD : 0 < D) (hB : 0 < B) (h1 : In a N D) (h2 : In d T B) (e : k * (T * D) = 1000 * (N * B)) : q.lo ≤ k ∧ k ≤ q.hi := by
  unfold quoF at h
  split at h
  · cases h
  · rename_i hz
    obtain ⟨rfl, -⟩ := fits_ok h
    have hz' : 0 < d.lo ∨ d.hi < 0 := by simp [zeroF] at hz; omega
    have m1 := min4_le (qdn a.lo d.lo) (qdn a.lo d.hi) (qdn a.hi d.lo) (qdn a.hi d.hi)
    have m2 := le_max4 (qup a.lo d.lo) (qup a.lo d.hi) (qup a.hi d.lo) (qup a.hi d.hi)
    generalize hL : min4 (qdn a.lo d.lo) (qdn a.lo d.hi) (qdn a.hi d.lo) (qdn a.hi d.hi) = L at *
    generalize hH : max4 (qup a.lo d.lo) (qup a.lo d.hi) (qup a.hi d.lo) (qup a.hi d.hi) = U at *
    dsimp only
    clear hL hH h hz
    have hDB : 0 < D * B := Int.mul_pos hD hB
    unfold In at h1 h2
    have g1 : ∀ {x y : Int}, x ≤ y → x * B ≤ y * B := fun h => Int.mul_le_mul_of_nonneg_right h (by omega)
    have g2 : ∀ {x y : Int}, x ≤ y → x * D ≤ y * D := fun h => Int.mul_le_mul_of_nonneg_right h (by omega)
    have n1 := g1 h1.1; have n2 := g1 h1.2
    have t1 := g2 h2.1; have t2 := g2 h2.2
    rcases hz' with hp | hp
    · -- all of d is above 0
      have hTp : 0 < T * D := Int.mul_pos (by have := Int.mul_pos hp hB; omega) hD
      have q1 := (qdn_le (x := a.lo) (y := d.lo) (by omega)).1 hp
      have q2 := (qdn_le (x := a.lo) (y := d.hi) (by omega)).1 (by omega)
      have q3 := (qdn_le (x := a.hi) (y := d.lo) (by omega)).1 hp
      have q4 := (qdn_le (x := a.hi) (y := d.hi) (by omega)).1 (by omega)
      have r1 : L * d.lo ≤ 1000 * a.lo := Int.le_trans (Int.mul_le_mul_of_nonneg_right m1.1 (by omega)) q1.1
      have r2 : L * d.hi ≤ 1000 * a.lo := Int.le_trans (Int.mul_le_mul_of_nonneg_right m1.2.1 (by omega)) q2.1
      have r3 : 1000 * a.hi ≤ U * d.lo := Int.le_trans q3.2 (Int.mul_le_mul_of_nonneg_right m2.2.2.1 (by omega))
      have r4 : 1000 * a.hi ≤ U * d.hi := Int.le_trans q4.2 (Int.mul_le_mul_of_nonneg_right m2.2.2.2 (by omega))
      have s1 : L * T ≤ 1000 * a.lo * B := by
        have := mul_btw L h2.1 h2.2
        have c1 := g1 r1; have c2 := g1 r2
        rw [Int.mul_assoc] at c1 c2
        rcases this with k | k <;> omega
      have s2 : 1000 * a.hi * B ≤ U * T := by
        have := mul_btw U h2.1 h2.2
        have c1 := g1 r3; have c2 := g1 r4
        rw [Int.mul_assoc U] at c1 c2
        rcases this with k | k <;> omega
      have s3 := g2 s1; have s4 := g2 s2
      have e1 : 1000 * a.lo * B * D = 1000 * (a.lo * D * B) := by grind
      have e2 : 1000 * a.hi * B * D = 1000 * (a.hi * D * B) := by grind
      rw [e1, Int.mul_assoc L] at s3
      rw [e2, Int.mul_assoc U] at s4
      exact ⟨Int.le_of_mul_le_mul_right (by omega) hTp, Int.le_of_mul_le_mul_right (by omega) hTp⟩
    · -- all of d is below 0
      have hTn : 0 < -(T * D) := by
        have h3 : d.hi * B < 0 := Int.mul_neg_of_neg_of_pos hp hB
        have : T * D < 0 := Int.mul_neg_of_neg_of_pos (by omega) hD
        omega
      have q1 := (qdn_le (x := a.lo) (y := d.lo) (by omega)).2 (by omega)
      have q2 := (qdn_le (x := a.lo) (y := d.hi) (by omega)).2 hp
      have q3 := (qdn_le (x := a.hi) (y := d.lo) (by omega)).2 (by omega)
      have q4 := (qdn_le (x := a.hi) (y := d.hi) (by omega)).2 hp
      have r1 : U * d.lo ≤ 1000 * a.lo := Int.le_trans (Int.mul_le_mul_of_nonpos_right m2.1 (by omega)) q1.2
      have r2 : U * d.hi ≤ 1000 * a.lo := Int.le_trans (Int.mul_le_mul_of_nonpos_right m2.2.1 (by omega)) q2.2
      have r3 : 1000 * a.hi ≤ L * d.lo := Int.le_trans q3.1 (Int.mul_le_mul_of_nonpos_right m1.2.2.1 (by omega))
      have r4 : 1000 * a.hi ≤ L * d.hi := Int.le_trans q4.1 (Int.mul_le_mul_of_nonpos_right m1.2.2.2 (by omega))
      have s1 : U * T ≤ 1000 * a.lo * B := by
        have := mul_btw U h2.1 h2.2
        have c1 := g1 r1; have c2 := g1 r2
        rw [Int.mul_assoc] at c1 c2
        rcases this with k | k <;> omega
      have s2 : 1000 * a.hi * B ≤ L * T := by
        have := mul_btw L h2.1 h2.2
        have c1 := g1 r3; have c2 := g1 r4
        rw [Int.mul_assoc L] at c1 c2
        rcases this with k | k <;> omega
      have s3 := g2 s1; have s4 := g2 s2
      have e1 : 1000 * a.lo * B * D = 1000 * (a.lo * D * B) := by grind
      have e2 : 1000 * a.hi * B * D = 1000 * (a.hi * D * B) := by grind
      rw [e1, Int.mul_assoc U] at s3
      rw [e2, Int.mul_assoc L] at s4
      have u1 : k * (T * D) ≤ L * (T * D) := by omega
      have u2 : U * (T * D) ≤ k * (T * D) := by omega
      have v1 : L * -(T * D) ≤ k * -(T * D) := by rw [Int.mul_neg, Int.mul_neg]; omega
      have v2 : k * -(T * D) ≤ U * -(T * D) := by rw [Int.mul_neg, Int.mul_neg]; omega
      exact ⟨Int.le_of_mul_le_mul_right v1 hTn, Int.le_of_mul_le_mul_right v2 hTn⟩
theorem fits_err {s : Sp} {e : Nat} (h : fitsF s = .error e) : e = 4 := by
  unfold fitsF at h
  split at h
  · cases h
  · injection h with h; exact h.symm
theorem nested_err {x : Sp} : ∀ (p : List Int) (e : Nat), nestedF x p = .error e → e = 4
  | [], e, h => by unfold nestedF at h; cases h
  | [n], e, h => by unfold nestedF at h; cases h
  | n :: m :: p, e, h => by
    unfold nestedF at h
    split at h
    · rename_i e' h1
      injection h with h
      subst h
      exact nested_err (m :: p) _ h1
    · split at h
      · rename_i h2
        injection h with h
        subst h
        exact fits_err h2
      · exact fits_err h
theorem slopeG_err : ∀ (k : Nat) (p : List Int) (e : Nat), slopeG k p = .error e → e = 4
  | k, [], e, h => by unfold slopeG at h; cases h
  | k, n :: p, e, h => by
    unfold slopeG at h
    split at h
    · split at h
      · rename_i h1
        injection h with h
        subst h
        exact slopeG_err (k + 1) p _ h1
      · cases h
    · injection h with h; exact h.symm
theorem steep_err {x : Sp} {p : List Int} {e : Nat} (h : steepF p x = .error e) : e = 4 := by
  unfold steepF at h
  split at h
  · rename_i h1
    injection h with h
    subst h
    unfold slopeF at h1
    split at h1
    · cases h1
    · exact slopeG_err _ _ _ h1
  · exact nested_err _ _ h
theorem quo_err {a d : Sp} {e : Nat} (h : quoF a d = .error e) : e = 8 ∨ e = 4 := by
  unfold quoF at h
  split at h
  · injection h with h; exact .inl h.symm
  · exact .inr (fits_err h)
/-- A step nearer keeps a root. -/
theorem nearer_root {p : List Int} {x : Sp} {n : Int} (h0 : 0 < p.length) (h5 : p.length ≤ 5) (hn : x.lo ≤ n ∧ n ≤ x.hi) (hz : exP n p = 0) :
    (∀ s, nearerF p x = .ok s → s.lo ≤ n ∧ n ≤ s.hi) ∧ nearerF p x ≠ .error 5 := by
  have hm := half_in (x := x) (by omega)
  unfold nearerF
  generalize halfF x = m at *
  cases h1 : nestedF ⟨m, m⟩ p with
  | error e =>
    have := nested_err _ _ h1
    subst this
    exact ⟨fun s h => (by cases h), fun h => (by cases h)⟩
  | ok at_ =>
    dsimp only
    cases h2 : steepF p x with
    | error e =>
      have := steep_err h2
      subst this
      exact ⟨fun s h => (by cases h), fun h => (by cases h)⟩
    | ok d =>
      dsimp only
      cases h3 : quoF at_ d with
      | error e =>
        rcases quo_err h3 with rfl | rfl
        · exact ⟨fun s h => (by cases h), fun h => (by cases h)⟩
        · exact ⟨fun s h => (by cases h), fun h => (by cases h)⟩
      | ok q =>
        dsimp only
        have i1 := nested_at (n := m) h5 h1 ⟨Int.le_refl _, Int.le_refl _⟩
        obtain ⟨T, e, i2⟩ := steep_in h0 h5 h2 hm hn
        rw [hz, Int.sub_zero] at e
        have hd : d.lo ≤ d.hi := by unfold In at i2; omega
        have hq := quo_in (k := m - n) h3 hd (by decide) (by decide) i1 i2 (by
          rw [← Int.mul_assoc, ← e]; omega)
        cases h4 : restF ⟨m, m⟩ q with
        | error e =>
          have := fits_err h4
          subst this
          exact ⟨fun s h => (by cases h), fun h => (by cases h)⟩
        | ok s =>
          dsimp only
          have i3 : In s n 1 := by
            have := rest_in (N := m) (N' := m - n) (D := 1) h4 ⟨by simp, by simp⟩ ⟨by omega, by omega⟩
            rwa [show m - (m - n) = n by omega] at this
          have i4 := in_one hn.1 hn.2
          obtain ⟨t, ht⟩ := com_some (by decide) i3 i4
          rw [ht]
          refine ⟨fun s' h => ?_, fun h => (by cases h)⟩
          injection h with h
          subst h
          have := in_com (by decide) ht i3 i4
          unfold In at this
          omega
theorem com_within {a b t : Sp} (h : comF a b = .ok t) : a.lo ≤ t.lo ∧ t.hi ≤ a.hi ∧ b.lo ≤ t.lo ∧ t.hi ≤ b.hi ∧ t.lo ≤ t.hi := by
  unfold comF at h
  split at h
  · cases h
  · injection h with h
    subst h
    dsimp only
    omega
theorem nearer_within {p : List Int} {x s : Sp} (h : nearerF p x = .ok s) : x.lo ≤ s.lo ∧ s.hi ≤ x.hi ∧ s.lo ≤ s.hi := by
  unfold nearerF at h
  split at h
  · cases h
  · split at h
    · cases h
    · split at h
      · cases h
      · split at h
        · cases h
        · have := com_within h
          omega
theorem nrun_law {p : List Int} (h0 : 0 < p.length) (h5 : p.length ≤ 5) : ∀ (k : Nat) (x s : Sp), x.lo ≤ x.hi → nrunG p k x = .ok s →
    x.lo ≤ s.lo ∧ s.hi ≤ x.hi ∧ s.lo ≤ s.hi ∧ ∀ n, x.lo ≤ n → n ≤ x.hi → exP n p = 0 → s.lo ≤ n ∧ n ≤ s.hi
  | 0, x, s, hx, h => by
    unfold nrunG at h
    injection h with h
    subst h
    exact ⟨Int.le_refl _, Int.le_refl _, hx, fun n a b _ => ⟨a, b⟩⟩
  | k + 1, x, s, hx, h => by
    unfold nrunG at h
    split at h
    · cases h
    · rename_i y hy
      split at h
      · injection h with h
        subst h
        exact ⟨Int.le_refl _, Int.le_refl _, hx, fun n a b _ => ⟨a, b⟩⟩
      · have w1 := nearer_within hy
        have ih := nrun_law h0 h5 k y s w1.2.2 h
        refine ⟨by omega, by omega, ih.2.2.1, fun n a b c => ?_⟩
        have := (nearer_root h0 h5 ⟨a, b⟩ c).1 y hy
        exact ih.2.2.2 n this.1 this.2 c
theorem nrun_err {p : List Int} (h0 : 0 < p.length) (h5 : p.length ≤ 5) : ∀ (k : Nat) (x : Sp) (n : Int), x.lo ≤ n → n ≤ x.hi → exP n p = 0 → nrunG p k x ≠ .error 5
  | 0, x, n, _, _, _ => by unfold nrunG; exact fun h => (by cases h)
  | k + 1, x, n, a, b, c => by
    unfold nrunG
    have hr := nearer_root h0 h5 ⟨a, b⟩ c
    cases hy : nearerF p x with
    | error e =>
      dsimp only
      intro h
      injection h with h
      subst h
      exact hr.2 hy
    | ok y =>
      dsimp only
      split
      · exact fun h => (by cases h)
      · have := hr.1 y hy
        exact nrun_err h0 h5 k y n this.1 this.2 c
end Go.Proofs.Ytmnbgcbiaapldaa
