/- Plain: a line is nought where it crosses: what its range, its roots and its sureness come to. -/
import Derived.Test.YtafhcppigpjcpaaDoorHas
set_option linter.unusedVariables false
set_option linter.unusedSimpArgs false
namespace Go.Proofs.YtafhcppigpjcpaaDoor

/-- A span of small numbers. -/
def Sx (x : Sp) : Prop := -1000000 ≤ x.lo ∧ x.lo ≤ x.hi ∧ x.hi ≤ 1000000
theorem Sx.rt {x : Sp} (h : Sx x) : Rt x := by
  obtain ⟨h1, h2, h3⟩ := h
  exact ⟨⟨by omega, by omega⟩, ⟨by omega, by omega⟩, h2⟩
theorem li_fits {s : Sp} (h : M s.lo ∧ M s.hi) : fitsF s = .ok s := by unfold fitsF; rw [if_pos h]
theorem li_p1 (m : Int) : pdn 1000 m = m := by unfold pdn dn; omega
theorem li_p2 (m : Int) : pup 1000 m = m := by unfold pup up; omega
theorem li_p3 (m : Int) : pdn m 1000 = m := by unfold pdn dn; omega
theorem li_p4 (m : Int) : pup m 1000 = m := by unfold pup up; omega
theorem li_prod {x : Sp} (h : Sx x) : prodF ⟨1000, 1000⟩ x = .ok x := by
  unfold prodF cornersF
  simp only [li_p1, li_p2]
  obtain ⟨h1, h2, h3⟩ := h
  have e3 : min4 x.lo x.hi x.lo x.hi = x.lo := by unfold min4; omega
  have e4 : max4 x.lo x.hi x.lo x.hi = x.hi := by unfold max4; omega
  rw [e3, e4]
  exact li_fits (s := x) ⟨⟨by omega, by omega⟩, ⟨by omega, by omega⟩⟩
theorem li_prod2 {m : Int} (h : M m) : prodF ⟨m, m⟩ ⟨1000, 1000⟩ = .ok ⟨m, m⟩ := by
  unfold prodF cornersF
  simp only [li_p3, li_p4]
  have e3 : min4 m m m m = m := by unfold min4; omega
  have e4 : max4 m m m m = m := by unfold max4; omega
  rw [e3, e4]
  exact li_fits (s := ⟨m, m⟩) ⟨h, h⟩
theorem li_sum {x : Sp} {n : Int} (h : Sx x) (hn : -1000000 ≤ n ∧ n ≤ 1000000) : sumF x ⟨-n, -n⟩ = .ok ⟨x.lo - n, x.hi - n⟩ := by
  unfold sumF
  obtain ⟨h1, h2, h3⟩ := h
  dsimp only
  rw [show x.lo + -n = x.lo - n by omega, show x.hi + -n = x.hi - n by omega]
  exact li_fits ⟨⟨by dsimp only; omega, by dsimp only; omega⟩, ⟨by dsimp only; omega, by dsimp only; omega⟩⟩
theorem li_nested {x : Sp} {n : Int} (h : Sx x) (hn : -1000000 ≤ n ∧ n ≤ 1000000) : nestedF x [-n, 1000] = .ok ⟨x.lo - n, x.hi - n⟩ := by
  simp only [nestedF]
  rw [li_prod h]
  exact li_sum h hn
theorem li_steep {n : Int} {x : Sp} : steepF [-n, 1000] x = .ok ⟨1000, 1000⟩ := by
  unfold steepF slopeF
  rw [if_neg (by simp)]
  simp only [List.tail_cons, slopeG]
  rw [if_pos (by decide)]
  rfl
theorem li_zero {a : Sp} (hr : Rt a) : raisedF a 0 = .ok ⟨1000, 1000⟩ := by
  have s1 : ∀ n, 0 ≤ n → signedF n 0 = .ok (1000, 1000) := fun n hn => by
    unfold signedF
    rw [if_pos hn]
    rfl
  have hp : 0 ≤ (apartF a).1 ∧ 0 ≤ (apartF a).2 := by
    have := hr.2.2
    unfold apartF
    dsimp only
    by_cases hz : zeroF a = true
    · rw [hz]; simp [zeroF] at hz ⊢; omega
    · rw [if_neg hz]; simp [zeroF] at hz; omega
  unfold raisedF raisedG
  rw [if_pos (by decide)]
  rw [s1 _ hp.1]
  dsimp only
  rw [s1 _ hp.2]
theorem li_added {x : Sp} {n : Int} (h : Sx x) (hn : -1000000 ≤ n ∧ n ≤ 1000000) : addedF x 0 ⟨0, 0⟩ [-n, 1000] = .ok ⟨x.lo - n, x.hi - n⟩ := by
  have hM : M (-n) := ⟨by omega, by omega⟩
  obtain ⟨h1, h2, h3⟩ := h
  have hS : Sx x := ⟨h1, h2, h3⟩
  have e1 : sumF ⟨0, 0⟩ ⟨-n, -n⟩ = .ok ⟨-n, -n⟩ := by
    unfold sumF
    dsimp only
    rw [Int.zero_add]
    exact li_fits ⟨hM, hM⟩
  have e2 : sumF ⟨-n, -n⟩ x = .ok ⟨x.lo - n, x.hi - n⟩ := by
    unfold sumF
    dsimp only
    rw [show -n + x.lo = x.lo - n by omega, show -n + x.hi = x.hi - n by omega]
    exact li_fits ⟨⟨by dsimp only; omega, by dsimp only; omega⟩, ⟨by dsimp only; omega, by dsimp only; omega⟩⟩
  unfold addedF
  rw [li_zero hS.rt]
  dsimp only
  rw [li_prod2 hM]
  dsimp only
  rw [e1]
  dsimp only
  unfold addedF
  rw [show (0 : Nat) + 1 = 1 from rfl, raised_one hS.rt]
  dsimp only
  rw [li_prod hS]
  dsimp only
  rw [e2]
  rfl
theorem li_half {x : Sp} : halfF x = (x.lo + x.hi) / 2 := rfl
theorem li_around {x : Sp} {n : Int} (h : Sx x) (hn : -1000000 ≤ n ∧ n ≤ 1000000) : aroundF [-n, 1000] x = .ok ⟨x.lo - n, x.hi - n⟩ := by
  obtain ⟨h1, h2, h3⟩ := h
  have hh := @li_half x
  generalize halfF x = m at hh
  unfold aroundF
  have hm : halfF x = m := by rw [li_half, hh]
  rw [hm]
  rw [li_nested (x := ⟨m, m⟩) ⟨by dsimp only; omega, Int.le_refl _, by dsimp only; omega⟩ hn]
  dsimp only
  rw [li_steep]
  dsimp only
  have e1 : restF x ⟨m, m⟩ = .ok ⟨x.lo - m, x.hi - m⟩ := by
    unfold restF
    exact li_fits ⟨⟨by dsimp only; omega, by dsimp only; omega⟩, ⟨by dsimp only; omega, by dsimp only; omega⟩⟩
  rw [e1]
  dsimp only
  rw [li_prod (x := ⟨x.lo - m, x.hi - m⟩) ⟨by dsimp only; omega, by dsimp only; omega, by dsimp only; omega⟩]
  dsimp only
  unfold sumF
  dsimp only
  rw [show m - n + (x.lo - m) = x.lo - n by omega, show m - n + (x.hi - m) = x.hi - n by omega]
  exact li_fits ⟨⟨by dsimp only; omega, by dsimp only; omega⟩, ⟨by dsimp only; omega, by dsimp only; omega⟩⟩
theorem li_com {s : Sp} (h : s.lo ≤ s.hi) : comF s s = .ok s := by
  unfold comF
  rw [Int.min_self, Int.max_self, if_neg (by omega)]
theorem li_tight {x : Sp} {n : Int} (h : Sx x) (hn : -1000000 ≤ n ∧ n ≤ 1000000) : tightF [-n, 1000] x = .ok ⟨x.lo - n, x.hi - n⟩ := by
  have hc : comF ⟨x.lo - n, x.hi - n⟩ ⟨x.lo - n, x.hi - n⟩ = .ok ⟨x.lo - n, x.hi - n⟩ := li_com (by have := h.2.1; dsimp only; omega)
  unfold tightF
  rw [li_nested h hn]
  dsimp only
  rw [li_added h hn]
  dsimp only
  rw [hc]
  dsimp only
  rw [li_around h hn]
  exact hc
theorem li_over {x : Sp} {n : Int} (h : Sx x) (hn : -1000000 ≤ n ∧ n ≤ 1000000) : overF [-n, 1000] x = .ok ⟨x.lo - n, x.hi - n⟩ := by
  obtain ⟨h1, h2, h3⟩ := h
  have hS : Sx x := ⟨h1, h2, h3⟩
  unfold overF
  rw [li_tight hS hn]
  dsimp only
  rw [li_steep]
  dsimp only
  rw [if_neg (by decide)]
  have hw : ¬ wayF ⟨1000, 1000⟩ = -1 := by decide
  rw [if_neg hw, if_neg hw]
  rw [li_nested (x := ⟨x.lo, x.lo⟩) ⟨h1, Int.le_refl _, by dsimp only; omega⟩ hn]
  dsimp only
  rw [li_nested (x := ⟨x.hi, x.hi⟩) ⟨by dsimp only; omega, Int.le_refl _, h3⟩ hn]
theorem li_zeroF {x : Sp} {n : Int} : zeroF ⟨x.lo - n, x.hi - n⟩ = true ↔ x.lo ≤ n ∧ n ≤ x.hi := by
  simp [zeroF]
  omega
/-- The pieces that are found: at most two, at most one where the crossing is at an end, none where it is not. -/
theorem li_find {n least : Int} (hn : -1000000 ≤ n ∧ n ≤ 1000000) (hl : 1 ≤ least) : ∀ (f : Nat) (x : Sp) (out : List Sp), Sx x → (x.hi - x.lo).toNat ≤ f → ((x.lo ≤ n → n ≤ x.hi → out.length ≤ 31) ∧ (x.lo < n → n < x.hi → out.length ≤ 30)) →
    ∃ L : List Sp, findG [-n, 1000] least f x out = .ok (out ++ L) ∧ L.length ≤ 2 ∧ ((n = x.lo ∨ n = x.hi) → L.length ≤ 1) ∧ (¬ (x.lo ≤ n ∧ n ≤ x.hi) → L = []) ∧ ((x.lo ≤ n ∧ n ≤ x.hi) → 1 ≤ L.length) ∧ ∀ s ∈ L, s.lo ≤ n ∧ n ≤ s.hi
  | f, x, out, hx, hf, ho => by
    have hov := li_over hx hn
    unfold findG
    rw [hov]
    dsimp only
    by_cases hz : x.lo ≤ n ∧ n ≤ x.hi
    · have hz1 := (li_zeroF (x := x) (n := n)).2 hz
      rw [if_neg (by rw [hz1]; decide)]
      by_cases hw : x.hi - x.lo ≤ least
      · rw [if_pos hw, if_neg (by have := ho.1 hz.1 hz.2; omega)]
        refine ⟨[x], rfl, by simp, fun _ => by simp, fun h => absurd hz h, fun _ => by simp, fun s hs => ?_⟩
        simp at hs
        rw [hs]; exact hz
      · rw [if_neg hw]
        obtain ⟨h1, h2, h3⟩ := hx
        match f, hf with
        | 0, hf => omega
        | f + 1, hf =>
          dsimp only
          have hh := @li_half x
          generalize halfF x = m at hh
          obtain ⟨L1, e1, a1, b1, c1, d1, g1⟩ := li_find hn hl f ⟨x.lo, m⟩ out ⟨h1, by dsimp only; omega, by dsimp only; omega⟩ (by dsimp only; omega) ⟨fun q1 q2 => ho.1 hz.1 hz.2, fun q1 q2 => ho.2 q1 (by dsimp only at q2; omega)⟩
          dsimp only at b1 c1 d1
          rw [e1]
          dsimp only
          obtain ⟨L2, e2, a2, b2, c2, d2, g2⟩ := li_find hn hl f ⟨m, x.hi⟩ (out ++ L1) ⟨by dsimp only; omega, by dsimp only; omega, h3⟩ (by dsimp only; omega) ⟨fun q1 q2 => by
            dsimp only at q1 q2
            rw [List.length_append]
            by_cases hnm : n = m
            · have := b1 (.inr hnm); have := ho.2 (by omega) (by omega); omega
            · rw [c1 (by omega)]; have := ho.1 hz.1 hz.2; simpa using this, fun q1 q2 => by
            dsimp only at q1 q2
            rw [List.length_append, c1 (by omega)]
            have := ho.2 (by omega) q2
            simpa using this⟩
          dsimp only at b2 c2 d2
          refine ⟨L1 ++ L2, by rw [e2, List.append_assoc], ?_, ?_, fun h => absurd hz h, fun _ => ?_, fun s hs => ?_⟩
          · rw [List.length_append]
            rcases Int.lt_trichotomy n m with h | h | h
            · rw [c2 (by omega)]; simpa using a1
            · have := b1 (.inr h); have := b2 (.inl h); omega
            · rw [c1 (by omega)]; simpa using a2
          · intro he
            rw [List.length_append]
            rcases he with he | he
            · have := b1 (.inl he)
              rw [c2 (by omega)]; simpa using this
            · have := b2 (.inr he)
              rw [c1 (by omega)]; simpa using this
          · rw [List.length_append]
            by_cases h : n ≤ m
            · have := d1 ⟨hz.1, h⟩; omega
            · have := d2 ⟨by omega, hz.2⟩; omega
          · rcases List.mem_append.1 hs with h | h
            · exact g1 s h
            · exact g2 s h
    · have hz1 : zeroF ⟨x.lo - n, x.hi - n⟩ = false := by
        cases hc : zeroF ⟨x.lo - n, x.hi - n⟩ with
        | false => rfl
        | true => exact absurd ((li_zeroF (x := x) (n := n)).1 hc) hz
      rw [if_pos hz1]
      exact ⟨[], by simp, by simp, fun _ => by simp, fun _ => rfl, fun h => absurd h hz, fun s hs => by cases hs⟩
theorem li_pboth {n : Int} {x : Sp} (hx : Rt x) (hn : M n) : pbothF [-n, 1000] x = none := by
  unfold pbothF pcheckF
  rw [if_neg (by simp), if_neg (by simp), if_pos]
  · exact checkF_none.2 hx
  · intro k hk
    simp at hk
    rcases hk with rfl | rfl
    · unfold M at *; omega
    · decide
/-- The law, outright. -/
theorem line_roots {n least : Int} (hn : -100000 ≤ n ∧ n ≤ 100000) (hl : 1 ≤ least ∧ least ≤ 1000) :
    ∃ L : List Sp, findF [-n, 1000] ⟨-200000, 200001⟩ least = .ok L ∧ 1 ≤ L.length ∧ L.length ≤ 2 ∧ ∀ s ∈ L, s.lo ≤ n ∧ n ≤ s.hi := by
  have hx : Sx ⟨-200000, 200001⟩ := ⟨by decide, by decide, by decide⟩
  obtain ⟨L, e, a, b, c, d, g⟩ := li_find (n := n) (least := least) (by omega) hl.1 (200001 - -200000 : Int).toNat ⟨-200000, 200001⟩ [] hx (Nat.le_refl _) (by simp)
  refine ⟨L, ?_, d ⟨by dsimp only; omega, by dsimp only; omega⟩, a, g⟩
  unfold findF
  rw [li_pboth hx.rt ⟨by omega, by omega⟩]
  simp only [orErr]
  rw [if_neg (by omega)]
  exact e
theorem line_sure {n : Int} (hn : -100000 ≤ n ∧ n ≤ 100000) : sureF [-n, 1000] ⟨-200000, 200001⟩ = .ok true := by
  have hx : Sx ⟨-200000, 200001⟩ := ⟨by decide, by decide, by decide⟩
  have h1 : mrangeF [-n, 1000] ⟨-200000, 200001⟩ = .ok ⟨-200000 - n, 200001 - n⟩ := by
    unfold mrangeF
    rw [li_pboth hx.rt ⟨by omega, by omega⟩]
    exact li_over hx (by omega)
  have h3 : nestedF ⟨-200000, -200000⟩ [-n, 1000] = .ok ⟨-200000 - n, -200000 - n⟩ := li_nested (x := ⟨-200000, -200000⟩) ⟨by decide, by decide, by decide⟩ (by omega)
  have h4 : nestedF ⟨200001, 200001⟩ [-n, 1000] = .ok ⟨200001 - n, 200001 - n⟩ := li_nested (x := ⟨200001, 200001⟩) ⟨by decide, by decide, by decide⟩ (by omega)
  unfold sureF
  rw [h1]
  dsimp only
  rw [li_steep]
  dsimp only
  rw [h3]
  dsimp only
  rw [h4]
  dsimp only
  have e1 : decide (-200000 - n ≤ 0) = true := decide_eq_true (by omega)
  have e2 : decide (0 ≤ 200001 - n) = true := decide_eq_true (by omega)
  rw [e1, e2]
  rfl
end Go.Proofs.YtafhcppigpjcpaaDoor
