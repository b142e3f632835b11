/- Plain laws, no program in sight: polynomials of several unknowns over boxes: what it is at numbers of a box lies in its range; over a smaller box the range is no wider. -/
import Derived.Test.YtmnbgcbiaapldaaIso
set_option linter.unusedVariables false
set_option linter.unusedSimpArgs false
namespace Go.Proofs.Ytmnbgcbiaapldaa

/-- Side by side: each number lies in its span. -/
def Inside : List Sp → List Int → Prop
  | [], [] => True
  | s :: b, n :: x => s.lo ≤ n ∧ n ≤ s.hi ∧ Inside b x
  | [], _ :: _ => False
  | _ :: _, [] => False
theorem hasG_inside : ∀ (b : List Sp) (x : List Int), x.length = b.length → (hasG b x = true ↔ Inside b x)
  | [], [], _ => by simp [hasG, Inside]
  | s :: b, n :: x, h => by
    have ih := hasG_inside b x (by simpa using h)
    unfold hasG Inside
    split
    · rename_i h1
      constructor
      · intro h2; cases h2
      · intro h2; omega
    · rename_i h1
      rw [ih]
      constructor
      · intro h2; exact ⟨by omega, by omega, h2⟩
      · intro h2; exact h2.2.2
  | [], _ :: _, h => by simp at h
  | _ :: _, [], h => by simp at h
theorem Inside.len : ∀ {b : List Sp} {x : List Int}, Inside b x → x.length = b.length
  | [], [], _ => rfl
  | _ :: _, _ :: _, h => by simpa using Inside.len h.2.2
  | [], _ :: _, h => h.elim
  | _ :: _, [], h => h.elim
def powX (t : Tm) : Nat → List Int → Int
  | _, [] => 1
  | i, v :: x => v ^ (t.time i).toNat * powX t (i + 1) x
def degX (t : Tm) : Nat → List Int → Nat
  | _, [] => 0
  | i, _ :: x => (t.time i).toNat + degX t (i + 1) x
theorem oneG_in {t : Tm} : ∀ (b : List Sp) (x : List Int) (i : Nat) (s r : Sp) (N D : Int), Inside b x → 0 < D → In s N D → oneG t i s b = .ok r → In r (N * powX t i x) (D * 1000 ^ degX t i x)
  | [], [], i, s, r, N, D, _, hD, hs, h => by
    unfold oneG at h
    injection h with h
    subst h
    simpa [powX, degX] using hs
  | c :: b, v :: x, i, s, r, N, D, hin, hD, hs, h => by
    obtain ⟨h1, h2, h3⟩ := hin
    unfold oneG at h
    generalize hk : (t.time i).toNat = k at *
    cases e1 : raisedF c k with
    | error e => rw [e1] at h; cases h
    | ok q =>
      rw [e1] at h
      dsimp only at h
      cases e2 : prodF s q with
      | error e => rw [e2] at h; cases h
      | ok u =>
        rw [e2] at h
        dsimp only at h
        have k1 := raised_in (b := 1) (by decide) e1 (in_one h1 h2)
        rw [Int.mul_one] at k1
        have hp : (0 : Int) < 1000 ^ k := Int.pow_pos (by decide)
        have k2 := prod_in e2 (Int.le_of_lt hD) (Int.le_of_lt hp) hs k1
        have k3 : In u (N * v ^ k) (D * 1000 ^ k) := by
          apply in_le (k := 1000) (by decide)
          rw [show N * v ^ k * 1000 = N * (1000 * v ^ k) by grind, show D * 1000 ^ k * 1000 = 1000 * (D * 1000 ^ k) by grind]
          exact k2
        have k4 := oneG_in b x (i + 1) u r _ _ h3 (Int.mul_pos hD hp) k3 h
        have e4 : N * powX t i (v :: x) = N * v ^ k * powX t (i + 1) x := by simp [powX, hk, Int.mul_assoc]
        have e5 : D * (1000 : Int) ^ degX t i (v :: x) = D * 1000 ^ k * 1000 ^ degX t (i + 1) x := by simp [degX, hk, Int.pow_add, Int.mul_assoc]
        rw [e4, e5]
        exact k4
  | [], _ :: _, _, _, _, _, _, h, _, _, _ => h.elim
  | _ :: _, [], _, _, _, _, _, h, _, _, _ => h.elim
theorem exactG_eq {t : Tm} (ht : ∀ i, 0 ≤ t.time i) : ∀ (x : List Int) (i : Nat) (n left : Int), (degX t i x : Int) ≤ left → exactG t i n left x = n * powX t i x * 1000 ^ (left.toNat - degX t i x)
  | [], i, n, left, _ => by simp [exactG, powX, degX]
  | v :: x, i, n, left, h => by
    have h0 := ht i
    have hd : (degX t (i + 1) x : Int) ≤ left - t.time i := by simp [degX] at h; omega
    unfold exactG
    rw [exactG_eq ht x (i + 1) _ _ hd]
    have e1 : (left - t.time i).toNat - degX t (i + 1) x = left.toNat - degX t i (v :: x) := by simp [degX]; omega
    rw [e1]
    simp [powX, Int.mul_assoc]
theorem tcheck_ok {t : Tm} {k : Nat} (h : tcheckF t k = none) : (∀ i, 0 ≤ t.time i ∧ t.time i ≤ 3) ∧ t.t0 + t.t1 + t.t2 ≤ 3 ∧ M t.by_ := by
  unfold tcheckF at h
  split at h
  · cases h
  · split at h
    · cases h
    · split at h
      · cases h
      · rename_i h1 h2 h3
        refine ⟨fun i => ?_, by omega, by simpa using h1⟩
        match i with
        | 0 => show 0 ≤ t.t0 ∧ t.t0 ≤ 3; omega
        | 1 => show 0 ≤ t.t1 ∧ t.t1 ≤ 3; omega
        | i + 2 => show 0 ≤ t.t2 ∧ t.t2 ≤ 3; omega
theorem deg_le {t : Tm} {k : Nat} (h : tcheckF t k = none) : ∀ x : List Int, x.length ≤ 3 → degX t 0 x ≤ 3 := by
  obtain ⟨h1, h2, -⟩ := tcheck_ok h
  have a0 : 0 ≤ t.t0 := (h1 0).1
  have a1 : 0 ≤ t.t1 := (h1 1).1
  have a2 : 0 ≤ t.t2 := (h1 2).1
  intro x hx
  match x, hx with
  | [], _ => simp [degX]
  | [_], _ => simp [degX, Tm.time]; omega
  | [_, _], _ => simp [degX, Tm.time]; omega
  | [_, _, _], _ => simp [degX, Tm.time]; omega
theorem one_at {t : Tm} {k : Nat} {b : List Sp} {x : List Int} {r : Sp} (hin : Inside b x) (h3 : x.length ≤ 3) (hc : tcheckF t k = none) (h : oneF t b = .ok r) : In r (exactF t x) 1000000000 := by
  have hd := deg_le hc x h3
  have h1 := oneG_in b x 0 ⟨t.by_, t.by_⟩ r t.by_ 1 hin (by decide) (in_one (Int.le_refl _) (Int.le_refl _)) h
  have e : exactF t x = t.by_ * powX t 0 x * 1000 ^ (3 - degX t 0 x) := exactG_eq (fun i => ((tcheck_ok hc).1 i).1) x 0 _ _ (by omega)
  rw [e]
  have h2 := in_mul (k := 1000 ^ (3 - degX t 0 x)) (Int.pow_nonneg (by decide)) h1
  rw [Int.one_mul, ← Int.pow_add, show degX t 0 x + (3 - degX t 0 x) = 3 by omega] at h2
  exact h2
theorem fover_in {b : List Sp} {x : List Int} {k : Nat} (hin : Inside b x) (h3 : x.length ≤ 3) : ∀ (f : List Tm) (s r : Sp) (N m : Int), firstBadT k f = none → foverG b s f = .ok r → pointG x N f = .ok m → In s N 1000000000 → In r m 1000000000
  | [], s, r, N, m, _, h1, h2, h => by
    unfold foverG at h1
    unfold pointG at h2
    injection h1 with h1
    injection h2 with h2
    subst h1; subst h2
    exact h
  | t :: f, s, r, N, m, hb, h1, h2, h => by
    unfold firstBadT at hb
    split at hb
    · cases hb
    · rename_i hc
      unfold foverG at h1
      unfold pointG at h2
      split at h2
      · cases e1 : oneF t b with
        | error e => rw [e1] at h1; cases h1
        | ok u =>
          rw [e1] at h1
          dsimp only at h1
          cases e2 : sumF s u with
          | error e => rw [e2] at h1; cases h1
          | ok s' =>
            rw [e2] at h1
            dsimp only at h1
            exact fover_in hin h3 f s' r _ m hb h1 h2 (sum_in e2 h (one_at hin h3 hc e1))
      · cases h2
theorem dn_le_up (n k : Int) (hk : 0 < k) : dn n k ≤ up n k := by
  have h1 := dn_le n k hk
  have h2 := up_ge n k hk
  have h3 : dn n k * k ≤ up n k * k := Int.le_trans h1 h2
  exact Int.le_of_mul_le_mul_right h3 hk
theorem in_round2 {s : Sp} {E D : Int} (hD : 0 < D) (h : In s E D) : s.lo ≤ dn E D ∧ dn E D ≤ s.hi := ⟨(le_dn hD).2 h.1, Int.le_trans (dn_le_up E D hD) ((up_le hD).2 h.2)⟩
theorem fcheck_ok {f : List Tm} {k : Int} (h : fcheckF f k = none) : 1 ≤ k ∧ k ≤ 3 ∧ f.length ≤ 6 ∧ firstBadT k.toNat f = none := by
  unfold fcheckF at h
  split at h
  · cases h
  · split at h
    · cases h
    · exact ⟨by omega, by omega, by omega, h⟩
theorem point_has {f : List Tm} {b : List Sp} {x : List Int} {s : Sp} {n : Int} {k : Int} (hc : fcheckF f k = none) (hin : Inside b x) (h3 : x.length ≤ 3) (h1 : foverF f b = .ok s) (h2 : pointF f x = .ok n) : s.lo ≤ n ∧ n ≤ s.hi := by
  unfold pointF at h2
  cases e : pointG x 0 f with
  | error e' => rw [e] at h2; cases h2
  | ok m =>
    rw [e] at h2
    dsimp only at h2
    split at h2
    · injection h2 with h2
      rw [← h2]
      exact in_round2 (by decide) (fover_in hin h3 f ⟨0, 0⟩ s 0 m (fcheck_ok hc).2.2.2 h1 e ⟨by simp, by simp⟩)
    · cases h2
/-- a box within a box, side by side. -/
def Parts : List Sp → List Sp → Prop
  | [], [] => True
  | s :: a, t :: b => s.lo ≤ s.hi ∧ Sub s t ∧ Parts a b
  | [], _ :: _ => False
  | _ :: _, [] => False
theorem oneG_iso {t : Tm} : ∀ (c b : List Sp) (i : Nat) (s s' r' : Sp), Parts c b → s.lo ≤ s.hi → Sub s s' → oneG t i s' b = .ok r' → ∃ r, oneG t i s c = .ok r ∧ Sub r r' ∧ r.lo ≤ r.hi
  | [], [], i, s, s', r', _, hv, hs, h => by
    unfold oneG at h
    injection h with h
    subst h
    exact ⟨s, rfl, hs, hv⟩
  | p :: c, q :: b, i, s, s', r', hp, hv, hs, h => by
    obtain ⟨h1, h2, h3⟩ := hp
    unfold oneG at h
    cases e1 : raisedF q (t.time i).toNat with
    | error e => rw [e1] at h; cases h
    | ok u' =>
      rw [e1] at h
      dsimp only at h
      cases e2 : prodF s' u' with
      | error e => rw [e2] at h; cases h
      | ok v' =>
        rw [e2] at h
        dsimp only at h
        obtain ⟨u, k1, k2, k3⟩ := raised_iso h1 h2 e1
        obtain ⟨v, m1, m2, m3⟩ := prod_iso hv k3 hs k2 e2
        obtain ⟨r, r1, r2, r3⟩ := oneG_iso c b (i + 1) v v' r' h3 m3 m2 h
        refine ⟨r, ?_, r2, r3⟩
        unfold oneG
        rw [k1]
        dsimp only
        rw [m1]
        exact r1
  | [], _ :: _, _, _, _, _, h, _, _, _ => h.elim
  | _ :: _, [], _, _, _, _, h, _, _, _ => h.elim
theorem foverG_iso {c b : List Sp} (hp : Parts c b) : ∀ (f : List Tm) (s s' r' : Sp), s.lo ≤ s.hi → Sub s s' → foverG b s' f = .ok r' → ∃ r, foverG c s f = .ok r ∧ Sub r r' ∧ r.lo ≤ r.hi
  | [], s, s', r', hv, hs, h => by
    unfold foverG at h
    injection h with h
    subst h
    exact ⟨s, rfl, hs, hv⟩
  | t :: f, s, s', r', hv, hs, h => by
    unfold foverG at h
    cases e1 : oneF t b with
    | error e => rw [e1] at h; cases h
    | ok u' =>
      rw [e1] at h
      dsimp only at h
      cases e2 : sumF s' u' with
      | error e => rw [e2] at h; cases h
      | ok v' =>
        rw [e2] at h
        dsimp only at h
        obtain ⟨u, k1, k2, k3⟩ := oneG_iso c b 0 ⟨t.by_, t.by_⟩ ⟨t.by_, t.by_⟩ u' hp (Int.le_refl _) (Sub.refl _) e1
        obtain ⟨v, m1, m2, m3⟩ := sum_iso hv k3 hs k2 e2
        obtain ⟨r, r1, r2, r3⟩ := foverG_iso hp f v v' r' m3 m2 h
        refine ⟨r, ?_, r2, r3⟩
        unfold foverG
        rw [show oneF t c = .ok u from k1]
        dsimp only
        rw [m1]
        exact r1
theorem fover_iso {c b : List Sp} {f : List Tm} {r' : Sp} (hp : Parts c b) (h : foverF f b = .ok r') : ∃ r, foverF f c = .ok r ∧ Sub r r' ∧ r.lo ≤ r.hi :=
  foverG_iso hp f ⟨0, 0⟩ ⟨0, 0⟩ r' (Int.le_refl _) (Sub.refl _) h
theorem inF_parts : ∀ (a b : List Sp), a.length = b.length → (∀ s ∈ a, s.lo ≤ s.hi) → inF a b = true → Parts a b
  | [], [], _, _, _ => trivial
  | s :: a, t :: b, hl, ha, h => by
    unfold inF at h
    split at h
    · cases h
    · exact ⟨ha s (by simp), ⟨by omega, by omega⟩, inF_parts a b (by simpa using hl) (fun u hu => ha u (by simp [hu])) h⟩
  | [], _ :: _, h, _, _ => by simp at h
  | _ :: _, [], h, _, _ => by simp at h
theorem Parts.inF : ∀ {a b : List Sp}, Parts a b → inF a b = true
  | [], [], _ => rfl
  | s :: a, t :: b, h => by
    unfold Go.Proofs.Ytmnbgcbiaapldaa.inF
    have h2 := h.2.1
    unfold Sub at h2
    rw [if_neg (by omega)]
    exact Parts.inF h.2.2
  | [], _ :: _, h => h.elim
  | _ :: _, [], h => h.elim
theorem Parts.len : ∀ {a b : List Sp}, Parts a b → a.length = b.length
  | [], [], _ => rfl
  | _ :: _, _ :: _, h => by simpa using Parts.len h.2.2
  | [], _ :: _, h => h.elim
  | _ :: _, [], h => h.elim
theorem Parts.inside : ∀ {a b : List Sp} {x : List Int}, Parts a b → Inside a x → Inside b x
  | [], [], [], _, _ => trivial
  | s :: a, t :: b, n :: x, h, hx => by
    have h2 := h.2.1
    unfold Sub at h2
    exact ⟨by have := hx.1; omega, by have := hx.2.1; omega, Parts.inside h.2.2 hx.2.2⟩
  | [], _ :: _, _, h, _ => h.elim
  | _ :: _, [], _, h, _ => h.elim
  | [], [], _ :: _, _, hx => hx.elim
  | _ :: _, _ :: _, [], _, hx => hx.elim
end Go.Proofs.Ytmnbgcbiaapldaa
