/- Plain laws: of smaller spans less is made, and what could be made of the greater ones can be made of these. -/
import Derived.Test.YtmnbgcbiaapldaaHasb
set_option linter.unusedVariables false
set_option linter.unusedSimpArgs false
namespace Go.Proofs.Ytmnbgcbiaapldaa

/-- a lies in b. -/
def Sub (a b : Sp) : Prop := b.lo ≤ a.lo ∧ a.hi ≤ b.hi
theorem Sub.refl (a : Sp) : Sub a a := ⟨Int.le_refl _, Int.le_refl _⟩
theorem Sub.trans {a b c : Sp} (h : Sub a b) (h' : Sub b c) : Sub a c := by unfold Sub at *; omega
theorem fits_iso {s s' t' : Sp} (hv : s.lo ≤ s.hi) (hs : Sub s s') (h : fitsF s' = .ok t') : fitsF s = .ok s ∧ Sub s t' := by
  obtain ⟨rfl, h1, h2⟩ := fits_ok h
  unfold M at h1 h2
  unfold Sub at hs
  refine ⟨?_, hs⟩
  unfold fitsF
  rw [if_pos (by unfold M; omega)]
theorem prod_iso {a b a' b' t' : Sp} (ha : a.lo ≤ a.hi) (hb : b.lo ≤ b.hi) (h1 : Sub a a') (h2 : Sub b b') (h : prodF a' b' = .ok t') : ∃ t, prodF a b = .ok t ∧ Sub t t' ∧ t.lo ≤ t.hi := by
  obtain ⟨L, H⟩ := prod_round h
  have c : ∀ x y : Int, a.lo ≤ x → x ≤ a.hi → b.lo ≤ y → y ≤ b.hi → t'.lo ≤ pdn x y ∧ pup x y ≤ t'.hi ∧ pdn x y ≤ pup x y := by
    intro x y k1 k2 k3 k4
    unfold Sub at h1 h2
    have k := corner_btw (A := a'.lo) (B := a'.hi) (N := x) (u := b'.lo) (v := b'.hi) (n := y) (by omega) (by omega) (by omega) (by omega) L H
    refine ⟨(le_dn (by decide)).2 k.1, (up_le (by decide)).2 k.2, ?_⟩
    have := pdn_le x y; have := pup_ge x y
    omega
  have c1 := c a.lo b.lo (by omega) (by omega) (by omega) (by omega)
  have c2 := c a.lo b.hi (by omega) (by omega) (by omega) (by omega)
  have c3 := c a.hi b.lo (by omega) (by omega) (by omega) (by omega)
  have c4 := c a.hi b.hi (by omega) (by omega) (by omega) (by omega)
  have m1 := min4_le (pdn a.lo b.lo) (pdn a.lo b.hi) (pdn a.hi b.lo) (pdn a.hi b.hi)
  have m2 := le_max4 (pup a.lo b.lo) (pup a.lo b.hi) (pup a.hi b.lo) (pup a.hi b.hi)
  have m3 := (le_min4 (m := t'.lo)).2 ⟨c1.1, c2.1, c3.1, c4.1⟩
  have m4 := (max4_le (m := t'.hi)).2 ⟨c1.2.1, c2.2.1, c3.2.1, c4.2.1⟩
  have := fits_ok h
  have hv : min4 (pdn a.lo b.lo) (pdn a.lo b.hi) (pdn a.hi b.lo) (pdn a.hi b.hi) ≤ max4 (pup a.lo b.lo) (pup a.lo b.hi) (pup a.hi b.lo) (pup a.hi b.hi) := by omega
  have hf : fitsF t' = .ok t' := by
    obtain ⟨e, k1, k2⟩ := this
    unfold fitsF
    rw [if_pos ⟨by rw [e]; exact k1, by rw [e]; exact k2⟩]
  have k := fits_iso (s := ⟨min4 (pdn a.lo b.lo) (pdn a.lo b.hi) (pdn a.hi b.lo) (pdn a.hi b.hi), max4 (pup a.lo b.lo) (pup a.lo b.hi) (pup a.hi b.lo) (pup a.hi b.hi)⟩) (s' := t') (t' := t') hv ⟨m3, m4⟩ hf
  exact ⟨_, k.1, k.2, hv⟩
theorem sum_iso {a b a' b' t' : Sp} (ha : a.lo ≤ a.hi) (hb : b.lo ≤ b.hi) (h1 : Sub a a') (h2 : Sub b b') (h : sumF a' b' = .ok t') : ∃ t, sumF a b = .ok t ∧ Sub t t' ∧ t.lo ≤ t.hi := by
  unfold Sub at h1 h2
  have k := fits_iso (s := ⟨a.lo + b.lo, a.hi + b.hi⟩) (by dsimp only; omega) (show Sub _ ⟨a'.lo + b'.lo, a'.hi + b'.hi⟩ from ⟨by dsimp only; omega, by dsimp only; omega⟩) h
  exact ⟨_, k.1, k.2, by dsimp only; omega⟩
theorem dn_mono {n m k : Int} (hk : 0 < k) (h : n ≤ m) : dn n k ≤ dn m k := by unfold dn; exact Int.ediv_le_ediv hk h
theorem up_mono {n m k : Int} (hk : 0 < k) (h : n ≤ m) : up n k ≤ up m k := by
  have := dn_mono (n := -m) (m := -n) hk (by omega)
  unfold dn at this
  unfold up
  omega
theorem again_iso {n n' : Int} (hn : 0 ≤ n) (h : n ≤ n') : ∀ (t : Nat) (lo' hi' : Int), againF n' t = .ok (lo', hi') → ∃ lo hi, againF n t = .ok (lo, hi) ∧ lo ≤ lo' ∧ hi ≤ hi' ∧ 0 ≤ lo ∧ lo ≤ hi
  | 0, lo', hi', h' => by
    simp [againF] at h'
    obtain ⟨rfl, rfl⟩ := h'
    exact ⟨1000, 1000, rfl, by omega, by omega, by omega, by omega⟩
  | t + 1, lo', hi', h' => by
    unfold againF at h'
    split at h'
    · cases h'
    · rename_i l' u' hq'
      split at h'
      · rename_i hM
        injection h' with h'
        injection h' with e1 e2
        subst e1 e2
        obtain ⟨l, u, hq, b1, b2, b3, b4⟩ := again_iso hn h t l' u' hq'
        have g1 : l * n ≤ l' * n' := Int.mul_le_mul b1 h hn (by omega)
        have g2 : u * n ≤ u' * n' := Int.mul_le_mul b2 h hn (by omega)
        have g3 : l * n ≤ u * n := Int.mul_le_mul_of_nonneg_right b4 hn
        have k1 : pdn l n ≤ pdn l' n' := dn_mono (by decide) g1
        have k2 : pup u n ≤ pup u' n' := up_mono (by decide) g2
        have k3 : pdn l n ≤ pup u n := by have := pdn_le l n; have := pup_ge u n; omega
        have k4 := pdn_nonneg b3 hn
        refine ⟨pdn l n, pup u n, ?_, k1, k2, k4, k3⟩
        unfold againF
        rw [hq]
        dsimp only
        rw [if_pos (by unfold M at *; omega)]
      · cases h'
theorem signed_iso_pos {n n' : Int} {t : Nat} {p' : Int × Int} (hn : 0 ≤ n) (h : n ≤ n') (h' : signedF n' t = .ok p') : ∃ p, signedF n t = .ok p ∧ p.1 ≤ p'.1 ∧ p.2 ≤ p'.2 ∧ 0 ≤ p.1 ∧ p.1 ≤ p.2 := by
  unfold signedF at *
  rw [if_pos (by omega)] at h'
  rw [if_pos hn]
  obtain ⟨l, u, a, b, c, d, e⟩ := again_iso hn h t p'.1 p'.2 h'
  exact ⟨(l, u), a, b, c, d, e⟩
theorem signed_iso_neg {n n' : Int} {t : Nat} {p' : Int × Int} (hn : n < 0) (h : n' ≤ n) (h' : signedF n' t = .ok p') : ∃ p, signedF n t = .ok p ∧ p'.1 ≤ p.1 ∧ p'.2 ≤ p.2 ∧ p.2 ≤ 0 ∧ p.1 ≤ p.2 := by
  unfold signedF at *
  rw [if_neg (by omega)] at h'
  rw [if_neg (by omega)]
  split at h'
  · cases h'
  · rename_i l' u' hq
    injection h' with h'
    subst h'
    obtain ⟨l, u, a, b, c, d, e⟩ := again_iso (n := -n) (n' := -n') (by omega) (by omega) t l' u' hq
    rw [a]
    exact ⟨_, rfl, by dsimp only; omega, by dsimp only; omega, by dsimp only; omega, by dsimp only; omega⟩
theorem apart_iso {s s' : Sp} (hv : s.lo ≤ s.hi) (h : Sub s s') : (apartF s').1 ≤ (apartF s).1 ∧ (apartF s).2 ≤ (apartF s').2 ∧ 0 ≤ (apartF s).1 ∧ (apartF s).1 ≤ (apartF s).2 ∧ 0 ≤ (apartF s').1 := by
  unfold Sub at h
  unfold apartF zeroF
  dsimp only
  by_cases c1 : s.lo ≤ 0 ∧ 0 ≤ s.hi
  · have z1 : (decide (s.lo ≤ 0) && decide (0 ≤ s.hi)) = true := by simp [c1.1, c1.2]
    have z2 : (decide (s'.lo ≤ 0) && decide (0 ≤ s'.hi)) = true := by simp; omega
    rw [z1, z2]
    simp only [if_true]
    omega
  · have z1 : (decide (s.lo ≤ 0) && decide (0 ≤ s.hi)) = false := by simp; omega
    rw [z1]
    by_cases c2 : s'.lo ≤ 0 ∧ 0 ≤ s'.hi
    · have z2 : (decide (s'.lo ≤ 0) && decide (0 ≤ s'.hi)) = true := by simp; omega
      rw [z2]
      simp only [if_true, Bool.false_eq_true, if_false]
      omega
    · have z2 : (decide (s'.lo ≤ 0) && decide (0 ≤ s'.hi)) = false := by simp; omega
      rw [z2]
      simp only [Bool.false_eq_true, if_false]
      omega
theorem signed_sign {n : Int} {t : Nat} {p : Int × Int} (h : signedF n t = .ok p) : (0 ≤ n → 0 ≤ p.1 ∧ p.1 ≤ p.2) ∧ (n < 0 → p.2 ≤ 0 ∧ p.1 ≤ p.2) := by
  refine ⟨fun hn => ?_, fun hn => ?_⟩
  · obtain ⟨q, a, _, _, b, c⟩ := signed_iso_pos hn (Int.le_refl n) h
    rw [h] at a; injection a with a; subst a; exact ⟨b, c⟩
  · obtain ⟨q, a, _, _, b, c⟩ := signed_iso_neg hn (Int.le_refl n) h
    rw [h] at a; injection a with a; subst a; exact ⟨b, c⟩
/-- an odd power between two that can be told can be told, and lies between. -/
theorem signed_btw {n n1 n2 : Int} {t : Nat} {p1 p2 : Int × Int} (h1 : signedF n1 t = .ok p1) (h2 : signedF n2 t = .ok p2) (k1 : n1 ≤ n) (k2 : n ≤ n2) : ∃ p, signedF n t = .ok p ∧ p1.1 ≤ p.1 ∧ p.2 ≤ p2.2 ∧ p.1 ≤ p.2 := by
  rcases Int.lt_or_le n 0 with hn | hn
  · obtain ⟨p, a, b, c, d, e⟩ := signed_iso_neg hn k1 h1
    refine ⟨p, a, b, ?_, e⟩
    rcases Int.lt_or_le n2 0 with h3 | h3
    · obtain ⟨q, a', b', c', d', e'⟩ := signed_iso_neg h3 k2 a
      rw [h2] at a'; injection a' with a'; subst a'; exact c'
    · have := (signed_sign h2).1 h3; omega
  · obtain ⟨p, a, b, c, d, e⟩ := signed_iso_pos hn k2 h2
    refine ⟨p, a, ?_, c, e⟩
    rcases Int.lt_or_le n1 0 with h3 | h3
    · have := (signed_sign h1).2 h3; omega
    · obtain ⟨q, a', b', c', d', e'⟩ := signed_iso_pos h3 k1 a
      rw [h1] at a'; injection a' with a'; subst a'; exact b'
theorem raised_iso {s s' r' : Sp} {t : Nat} (hv : s.lo ≤ s.hi) (hs : Sub s s') (h : raisedF s' t = .ok r') : ∃ r, raisedF s t = .ok r ∧ Sub r r' ∧ r.lo ≤ r.hi := by
  unfold raisedF raisedG at h
  split at h
  · cases h
  · rename_i p1 h1
    split at h
    · cases h
    · rename_i p2 h2
      injection h with h
      subst h
      by_cases ht : t % 2 = 0
      · rw [if_pos ht] at h1 h2
        obtain ⟨a1, a2, a3, a4, a5⟩ := apart_iso hv hs
        obtain ⟨q2, b1, b2, b3, b4, b5⟩ := signed_iso_pos (by omega) a2 h2
        obtain ⟨q1, c1, c2, c3, c4, c5⟩ := signed_iso_pos a3 a4 b1
        obtain ⟨q3, d1, d2, d3, d4, d5⟩ := signed_iso_pos a5 a1 c1
        rw [h1] at d1; injection d1 with d1; subst d1
        refine ⟨⟨q1.1, q2.2⟩, ?_, ⟨d2, b3⟩, by dsimp only; omega⟩
        unfold raisedF raisedG
        rw [if_pos ht, c1]
        dsimp only
        rw [b1]
      · rw [if_neg ht] at h1 h2
        unfold Sub at hs
        obtain ⟨q1, a1, a2, a3, a4⟩ := signed_btw h1 h2 (n := s.lo) hs.1 (by omega)
        obtain ⟨q2, b1, b2, b3, b4⟩ := signed_btw a1 h2 (n := s.hi) hv hs.2
        refine ⟨⟨q1.1, q2.2⟩, ?_, ⟨a2, b3⟩, by dsimp only; omega⟩
        unfold raisedF raisedG
        rw [if_neg ht]
        dsimp only
        rw [a1]
        dsimp only
        rw [b1]
end Go.Proofs.Ytmnbgcbiaapldaa
