/- Plain laws: what goes together of three spans keeps the numbers that go together (narrow). -/
import Derived.Test.YtomfbhohaiffpaaDoorHasl
import Derived.Test.YtomfbhohaiffpaaDoorHas
set_option linter.unusedVariables false
set_option linter.unusedSimpArgs false
namespace Go.Proofs.YtomfbhohaiffpaaDoor

def Has1 (s : Sp) (n : Int) : Prop := s.lo ≤ n ∧ n ≤ s.hi
theorem com_has {a b t : Sp} {n : Int} (h : comF a b = .ok t) (h1 : Has1 a n) (h2 : Has1 b n) : Has1 t n := by
  unfold comF at h
  split at h
  · cases h
  · injection h with h
    subst h
    unfold Has1 at *
    dsimp only
    omega
theorem com_some1 {a b : Sp} {n : Int} (h1 : Has1 a n) (h2 : Has1 b n) : ∃ t, comF a b = .ok t := by
  unfold comF
  rw [if_neg (by unfold Has1 at *; omega)]
  exact ⟨_, rfl⟩
theorem com_err5 {a b : Sp} {e : Nat} (h : comF a b = .error e) : e = 5 := by
  unfold comF at h
  split at h
  · injection h with h; exact h.symm
  · cases h
theorem kept_has {s t : Sp} {r : Except Nat Sp} {n : Int} (h : keptF s r = .ok t) (h1 : Has1 s n) (h2 : ∀ m, r = .ok m → Has1 m n) : Has1 t n := by
  unfold keptF at h
  cases r with
  | error e => cases h
  | ok m => exact com_has h h1 (h2 m rfl)
theorem kept_sub {s t : Sp} {r : Except Nat Sp} (h : keptF s r = .ok t) : s.lo ≤ t.lo ∧ t.hi ≤ s.hi ∧ t.lo ≤ t.hi := by
  unfold keptF at h
  cases r with
  | error e => cases h
  | ok m =>
    have := com_within h
    omega
theorem kept_no5 {s : Sp} {r : Except Nat Sp} {n : Int} {e : Nat} (h : keptF s r = .error e) (h1 : Has1 s n) (h2 : ∀ m, r = .ok m → Has1 m n) (h3 : r ≠ .error 5) : e ≠ 5 := by
  unfold keptF at h
  cases r with
  | error k =>
    injection h with h
    subst h
    rintro rfl
    exact h3 rfl
  | ok m =>
    obtain ⟨t, ht⟩ := com_some1 h1 (h2 m rfl)
    dsimp only at h
    rw [ht] at h
    cases h
theorem other_has {back : Sp → Sp → Except Nat Sp} {may : Sp → Bool} {x z y t : Sp} {n : Int} (h : otherF back may x z y = .ok t) (h1 : Has1 x n) (h2 : may y = true → ∀ m, back z y = .ok m → Has1 m n) : Has1 t n := by
  unfold otherF at h
  split at h
  · exact kept_has h h1 (h2 (by assumption))
  · injection h with h; rw [← h]; exact h1
theorem other_sub {back : Sp → Sp → Except Nat Sp} {may : Sp → Bool} {x z y t : Sp} (hx : x.lo ≤ x.hi) (h : otherF back may x z y = .ok t) : x.lo ≤ t.lo ∧ t.hi ≤ x.hi ∧ t.lo ≤ t.hi := by
  unfold otherF at h
  split at h
  · exact kept_sub h
  · injection h with h; rw [← h]; omega
theorem other_no5 {back : Sp → Sp → Except Nat Sp} {may : Sp → Bool} {x z y : Sp} {n : Int} {e : Nat} (h : otherF back may x z y = .error e) (h1 : Has1 x n) (h2 : may y = true → ∀ m, back z y = .ok m → Has1 m n) (h3 : may y = true → back z y ≠ .error 5) : e ≠ 5 := by
  unfold otherF at h
  split at h
  · exact kept_no5 h h1 (h2 (by assumption)) (h3 (by assumption))
  · cases h
theorem check3_parts {x y z : Sp} (h : check3F x y z = none) : Rt x ∧ Rt y ∧ Rt z := by
  unfold check3F at h
  split at h
  · cases h
  · split at h
    · cases h
    · exact ⟨checkF_none.1 (by assumption), checkF_none.1 (by assumption), checkF_none.1 h⟩
/-- No wider. -/
theorem all_sub {there back : Sp → Sp → Except Nat Sp} {may : Sp → Bool} {x y z p q r : Sp} (h : allF there back may x y z = .ok (p, q, r)) :
    (x.lo ≤ p.lo ∧ p.hi ≤ x.hi) ∧ (y.lo ≤ q.lo ∧ q.hi ≤ y.hi) ∧ (z.lo ≤ r.lo ∧ r.hi ≤ z.hi) := by
  unfold allF at h
  split at h
  · cases h
  · rename_i hc
    obtain ⟨⟨-, -, rx⟩, ⟨-, -, ry⟩, -⟩ := check3_parts hc
    split at h
    · cases h
    · rename_i z' hz
      have k1 := kept_sub hz
      split at h
      · cases h
      · rename_i x' hx
        have k2 := other_sub rx hx
        split at h
        · cases h
        · rename_i y' hy
          have k3 := other_sub ry hy
          injection h with h
          injection h with e1 h
          injection h with e2 e3
          subst e1 e2 e3
          omega
theorem kept_in {s t : Sp} {r : Except Nat Sp} {N D : Int} (hD : 0 < D) (h : keptF s r = .ok t) (h1 : In s N D) (h2 : ∀ m, r = .ok m → In m N D) : In t N D := by
  unfold keptF at h
  cases r with
  | error e => cases h
  | ok m => exact in_com (by omega) h h1 (h2 m rfl)
theorem kept_in_no5 {s : Sp} {r : Except Nat Sp} {N D : Int} {e : Nat} (hD : 0 < D) (h : keptF s r = .error e) (h1 : In s N D) (h2 : ∀ m, r = .ok m → In m N D) (h3 : r ≠ .error 5) : e ≠ 5 := by
  unfold keptF at h
  cases r with
  | error k =>
    injection h with h
    subst h
    rintro rfl
    exact h3 rfl
  | ok m =>
    obtain ⟨t, ht⟩ := com_some hD h1 (h2 m rfl)
    dsimp only at h
    rw [ht] at h
    cases h
/-- What goes together is kept. -/
theorem all_keeps {there back : Sp → Sp → Except Nat Sp} {may : Sp → Bool} {x y z : Sp} {a b N D : Int} (hD : 0 < D) (hc : check3F x y z = none) (hx : Has1 x a) (hy : Has1 y b) (hz : In z N D)
    (h1 : ∀ m, there x y = .ok m → In m N D) (h2 : ∀ z' m, In z' N D → may y = true → back z' y = .ok m → Has1 m a) (h3 : ∀ z' x' m, In z' N D → Has1 x' a → x'.lo ≤ x'.hi → may x' = true → back z' x' = .ok m → Has1 m b)
    (e1 : there x y ≠ .error 5) (e2 : ∀ u v, back u v ≠ .error 5) :
    allF there back may x y z ≠ .error 5 ∧ ∀ p q r, allF there back may x y z = .ok (p, q, r) → Has1 p a ∧ Has1 q b ∧ In r N D := by
  obtain ⟨⟨-, -, rx⟩, ⟨-, -, ry⟩, -⟩ := check3_parts hc
  unfold allF
  rw [hc]
  dsimp only
  cases hk : keptF z (there x y) with
  | error e =>
    refine ⟨?_, fun p q r h => by cases h⟩
    intro h
    injection h with h
    exact kept_in_no5 hD hk hz h1 e1 h
  | ok z' =>
    have hz' := kept_in hD hk hz h1
    dsimp only
    cases ho : otherF back may x z' y with
    | error e =>
      refine ⟨?_, fun p q r h => by cases h⟩
      intro h
      injection h with h
      exact other_no5 ho hx (fun hm m h => h2 z' m hz' hm h) (fun _ => e2 _ _) h
    | ok x' =>
      have hx' := other_has ho hx (fun hm m h => h2 z' m hz' hm h)
      have sx := other_sub rx ho
      dsimp only
      cases hw : otherF back may y z' x' with
      | error e =>
        refine ⟨?_, fun p q r h => by cases h⟩
        intro h
        injection h with h
        exact other_no5 hw hy (fun hm m h => h3 z' x' m hz' hx' sx.2.2 hm h) (fun _ => e2 _ _) h
      | ok y' =>
        have hy' := other_has hw hy (fun hm m h => h3 z' x' m hz' hx' sx.2.2 hm h)
        refine ⟨(by intro h; cases h), fun p q r h => ?_⟩
        injection h with h
        injection h with e1 h
        injection h with e2 e3
        subst e1 e2 e3
        exact ⟨hx', hy', hz'⟩
theorem sum_no5 (a b : Sp) : sumF a b ≠ .error 5 := fun h => by have := fits_err h; omega
theorem rest_no5 (a b : Sp) : restF a b ≠ .error 5 := fun h => by have := fits_err h; omega
theorem prod_no5 (a b : Sp) : prodF a b ≠ .error 5 := fun h => by have := fits_err h; omega
theorem quo_no5 (a b : Sp) : quoF a b ≠ .error 5 := fun h => by have := quo_err h; omega
theorem sum_has1 {s q t : Sp} {n m : Int} (h : sumF s q = .ok t) (h1 : Has1 s n) (h2 : Has1 q m) : Has1 t (n + m) := by
  unfold sumF at h
  obtain ⟨rfl, -, -⟩ := fits_ok h
  unfold Has1 at *
  dsimp only
  omega
theorem rest_has1 {s q t : Sp} {n m : Int} (h : restF s q = .ok t) (h1 : Has1 s n) (h2 : Has1 q m) : Has1 t (n - m) := by
  unfold restF at h
  obtain ⟨rfl, -, -⟩ := fits_ok h
  unfold Has1 at *
  dsimp only
  omega
theorem has_in {s : Sp} {n : Int} (h : Has1 s n) : In s n 1 := in_one h.1 h.2
theorem in_has {s : Sp} {n : Int} (h : In s n 1) : Has1 s n := by
  unfold In at h
  unfold Has1
  omega
theorem prod_inD {s x t : Sp} {n m : Int} (h : prodF s x = .ok t) (h1 : Has1 s n) (h2 : Has1 x m) : In t (n * m) 1000 := prod_in h (by decide) (by decide) (has_in h1) (has_in h2)
theorem quo_hasD {z y t : Sp} {n m : Int} (h : quoF z y = .ok t) (hy : y.lo ≤ y.hi) (h1 : In z (n * m) 1000) (h2 : Has1 y m) : Has1 t n :=
  quo_in h hy (by decide) (by decide) h1 (has_in h2) (by rw [Int.mul_one, ← Int.mul_assoc, Int.mul_comm 1000])
theorem nsum_keeps {x y z : Sp} {a b : Int} (hc : check3F x y z = none) (hx : Has1 x a) (hy : Has1 y b) (hz : Has1 z (a + b)) :
    nsumF x y z ≠ .error 5 ∧ ∀ p q r, nsumF x y z = .ok (p, q, r) → Has1 p a ∧ Has1 q b ∧ Has1 r (a + b) := by
  have h := all_keeps (there := sumF) (back := restF) (may := fun _ => true) (by decide) hc hx hy (has_in hz) (fun m h => has_in (sum_has1 h hx hy)) (fun z' m h1 _ h => by have := rest_has1 h (in_has h1) hy; rw [show a + b - b = a by omega] at this; exact this)
    (fun z' x' m h1 h2 _ _ h => by have := rest_has1 h (in_has h1) h2; rw [show a + b - a = b by omega] at this; exact this) (sum_no5 _ _) rest_no5
  exact ⟨h.1, fun p q r k => ⟨(h.2 p q r k).1, (h.2 p q r k).2.1, in_has (h.2 p q r k).2.2⟩⟩
theorem ntimes_keepsD {x y z : Sp} {a b : Int} (hc : check3F x y z = none) (hx : Has1 x a) (hy : Has1 y b) (hz : In z (a * b) 1000) :
    ntimesF x y z ≠ .error 5 ∧ ∀ p q r, ntimesF x y z = .ok (p, q, r) → Has1 p a ∧ Has1 q b ∧ In r (a * b) 1000 :=
  all_keeps (by decide) hc hx hy hz (fun m h => prod_inD h hx hy) (fun z' m h1 _ h => quo_hasD h (check3_parts hc).2.1.2.2 h1 hy)
    (fun z' x' m h1 h2 h3 _ h => quo_hasD h h3 (by rw [Int.mul_comm]; exact h1) h2) (prod_no5 _ _) quo_no5
theorem ntimes_keeps {x y z : Sp} {a b c : Int} (hc : check3F x y z = none) (hx : Has1 x a) (hy : Has1 y b) (hz : Has1 z c) (e : a * b = 1000 * c) :
    ntimesF x y z ≠ .error 5 ∧ ∀ p q r, ntimesF x y z = .ok (p, q, r) → Has1 p a ∧ Has1 q b ∧ Has1 r c := by
  have h := ntimes_keepsD hc hx hy (show In z (a * b) 1000 by unfold In; unfold Has1 at hz; rw [e]; omega)
  refine ⟨h.1, fun p q r k => ⟨(h.2 p q r k).1, (h.2 p q r k).2.1, ?_⟩⟩
  have := (h.2 p q r k).2.2
  rw [e] at this
  unfold In at this
  unfold Has1
  omega
theorem nsum_sub {x y z p q r : Sp} (h : nsumF x y z = .ok (p, q, r)) : (x.lo ≤ p.lo ∧ p.hi ≤ x.hi) ∧ (y.lo ≤ q.lo ∧ q.hi ≤ y.hi) ∧ (z.lo ≤ r.lo ∧ r.hi ≤ z.hi) := all_sub h
theorem ntimes_sub {x y z p q r : Sp} (h : ntimesF x y z = .ok (p, q, r)) : (x.lo ≤ p.lo ∧ p.hi ≤ x.hi) ∧ (y.lo ≤ q.lo ∧ q.hi ≤ y.hi) ∧ (z.lo ≤ r.lo ∧ r.hi ≤ z.hi) := all_sub h
/-- The faults of what goes together, of spans that are right. -/
theorem kept_err {s : Sp} {r : Except Nat Sp} {e : Nat} (h : keptF s r = .error e) : r = .error e ∨ e = 5 := by
  unfold keptF at h
  cases r with
  | error k => exact .inl h
  | ok m => exact .inr (com_err5 h)
theorem other_err {back : Sp → Sp → Except Nat Sp} {may : Sp → Bool} {x z y : Sp} {e : Nat} (h : otherF back may x z y = .error e) : (may y = true ∧ back z y = .error e) ∨ e = 5 := by
  unfold otherF at h
  split at h
  · rcases kept_err h with h1 | h1
    · exact .inl ⟨by assumption, h1⟩
    · exact .inr h1
  · cases h
theorem quo_err4 {a b : Sp} {e : Nat} (hz : (!zeroF b) = true) (h : quoF a b = .error e) : e = 4 := by
  unfold quoF at h
  rw [if_neg (by simpa using hz)] at h
  exact fits_err h
theorem ntimes_err {x y z : Sp} {e : Nat} (hc : check3F x y z = none) (h : ntimesF x y z = .error e) : e = 4 ∨ e = 5 := by
  unfold ntimesF allF at h
  rw [hc] at h
  dsimp only at h
  split at h
  · rename_i e1 hk
    injection h with h
    subst h
    rcases kept_err hk with h1 | h1
    · exact .inl (fits_err h1)
    · exact .inr h1
  · split at h
    · rename_i e1 hk
      injection h with h
      subst h
      rcases other_err hk with ⟨h0, h1⟩ | h1
      · exact .inl (quo_err4 h0 h1)
      · exact .inr h1
    · split at h
      · rename_i e1 hk
        injection h with h
        subst h
        rcases other_err hk with ⟨h0, h1⟩ | h1
        · exact .inl (quo_err4 h0 h1)
        · exact .inr h1
      · cases h
theorem exact_two (a b : Int) : exactF ⟨1000, 1, 1, 0⟩ [a, b] = 1000000 * (a * b) := by
  unfold exactF
  simp only [exactG, Tm.time]
  rw [show (1 : Int).toNat = 1 by rfl, Int.pow_succ, Int.pow_succ, Int.pow_zero, Int.pow_zero, show ((3 : Int) - 1 - 1).toNat = 1 by rfl, Int.pow_succ, Int.pow_zero]
  grind
theorem mul_small {a b : Int} (ha : Sm a) (hb : Sm b) : -400000000 ≤ a * b ∧ a * b ≤ 400000000 := by
  obtain ⟨a1, a2⟩ := ha; obtain ⟨b1, b2⟩ := hb
  have h : (a * b).natAbs ≤ 20000 * 20000 := by
    rw [Int.natAbs_mul]; exact Nat.mul_le_mul (by omega) (by omega)
  omega
/-- The product of two spans, and what goes together with it. -/
theorem top_narrow {x y s : Sp} {a b : Int} (h : frangeF [⟨1000, 1, 1, 0⟩] [x, y] = .ok s) (ha : Has1 x a) (hb : Has1 y b) (sa : Sm a) (sb : Sm b) :
    ∃ n, atF [⟨1000, 1, 1, 0⟩] [a, b] = .ok n ∧ Has1 s n ∧ (∀ e, ntimesF x y s = .error e → e = 4) ∧ ∀ p q r, ntimesF x y s = .ok (p, q, r) → Has1 p a ∧ Has1 q b ∧ Has1 r n := by
  unfold frangeF at h
  obtain ⟨h1, h2⟩ := orErr_parts h
  obtain ⟨h3, h4⟩ := orErr_parts h2
  have hxy := (bcheck_bx h1).spans
  have rx : Rt x := hxy x (by simp)
  have ry : Rt y := hxy y (by simp)
  have hin : Inside [x, y] [a, b] := ⟨ha.1, ha.2, hb.1, hb.2, trivial⟩
  have hsm := mul_small sa sb
  have hpg : pointG [a, b] 0 [⟨1000, 1, 1, 0⟩] = .ok (1000000 * (a * b)) := by
    unfold pointG
    rw [if_pos (by decide)]
    unfold pointG
    rw [exact_two]
    congr 1
    omega
  have hIn : In s (a * b) 1000 := by
    have k := fover_in hin (by simp) [⟨1000, 1, 1, 0⟩] ⟨0, 0⟩ s 0 _ (fcheck_ok h3).2.2.2 h4 hpg ⟨by simp, by simp⟩
    apply in_le (k := 1000000) (by decide)
    rw [Int.mul_comm (a * b)]
    exact k
  have hd : dn (1000000 * (a * b)) 1000000000 = dn (a * b) 1000 := by unfold dn; omega
  have hm : M (dn (a * b) 1000) := by unfold dn M; omega
  have hpf : pointF [⟨1000, 1, 1, 0⟩] [a, b] = .ok (dn (a * b) 1000) := by
    unfold pointF
    rw [hpg]
    dsimp only
    rw [hd, if_pos hm]
  have hs : Rt s := by
    unfold foverF foverG at h4
    split at h4
    · cases h4
    · split at h4
      · cases h4
      · rename_i u hu
        unfold foverG at h4
        injection h4 with h4
        subst h4
        unfold sumF at hu
        obtain ⟨e, m1, m2⟩ := fits_ok hu
        rw [← e] at m1 m2
        unfold In at hIn
        exact ⟨m1, m2, by omega⟩
  have hc : check3F x y s = none := by
    unfold check3F
    rw [checkF_none.2 rx]
    dsimp only
    rw [checkF_none.2 ry]
    exact checkF_none.2 hs
  have hk := ntimes_keepsD hc ha hb hIn
  refine ⟨dn (a * b) 1000, ?_, in_round2 (by decide) hIn, fun e he => ?_, fun p q r hr => ?_⟩
  · unfold atF
    rw [show fcheckF [⟨1000, 1, 1, 0⟩] (([a, b] : List Int).length : Int) = none from h3]
    show orErr (numbersF [a, b]) _ = _
    rw [show numbersF [a, b] = none by
      unfold numbersF
      rw [if_pos]
      intro n hn
      simp at hn
      rcases hn with rfl | rfl <;> assumption]
    exact hpf
  · rcases ntimes_err hc he with h | h
    · exact h
    · subst h
      exact absurd he hk.1
  · obtain ⟨k1, k2, k3⟩ := hk.2 p q r hr
    exact ⟨k1, k2, in_round2 (by decide) k3⟩
end Go.Proofs.YtomfbhohaiffpaaDoor
