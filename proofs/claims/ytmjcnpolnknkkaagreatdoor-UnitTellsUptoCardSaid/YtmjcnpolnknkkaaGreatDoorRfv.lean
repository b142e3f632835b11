/- How the reference reads a number, byte by byte: plain laws. -/
import Derived.Test.YtmjcnpolnknkkaaGreatDoorUtx
set_option linter.unusedVariables false
set_option linter.unusedSimpArgs false
namespace Go.Proofs.YtmjcnpolnknkkaaGreatDoor
open Go

theorem val_snoc (l : List UInt8) (x : UInt8) : valF 0 (l ++ [x]) = valF 0 l * 10 + (x.toNat - 48) := by rw [val_app, valF_cons, valF_nil]
/-- The first j bytes behind the sign have been read. -/
def RS (body : List UInt8) (j n many : Nat) (behind : Int) : Prop :=
  (behind = -1 ∧ (∀ x ∈ body.take j, Dig x) ∧ n = valF 0 (body.take j) ∧ many = j) ∨
  (∃ D E, body.take j = D ++ 46 :: E ∧ (∀ x ∈ D, Dig x) ∧ (∀ x ∈ E, Dig x) ∧ n = valF 0 (D ++ E) ∧ many = D.length ∧ behind = (E.length : Int))
theorem RS.begin_ (body : List UInt8) : RS body 0 0 0 (-1) := .inl ⟨rfl, fun x hx => by simp at hx, by simp [valF_nil], rfl⟩
theorem take_one {l : List UInt8} {j : Nat} {x : UInt8} (h : l[j]? = some x) : l.take (j + 1) = l.take j ++ [x] := by
  obtain ⟨hlt, hx⟩ := List.getElem?_eq_some_iff.1 h
  rw [List.take_succ_eq_append_getElem hlt, hx]
theorem RS.bounds {body : List UInt8} {j n many : Nat} {behind : Int} (h : RS body j n many behind) (hj : j ≤ 12) : n < 1000000000000 ∧ many ≤ 12 ∧ -1 ≤ behind ∧ behind ≤ 12 := by
  have hl : (body.take j).length ≤ 12 := by rw [List.length_take]; omega
  have hp : ∀ l : List UInt8, l.length ≤ 12 → (∀ x ∈ l, Dig x) → valF 0 l < 1000000000000 := fun l h1 h2 => by
    have h3 := val_bd l 0 h2
    have h4 : (10 : Nat) ^ l.length ≤ 10 ^ 12 := Nat.pow_le_pow_right (by decide) h1
    omega
  rcases h with ⟨rfl, h1, rfl, rfl⟩ | ⟨D, E, e, h1, h2, rfl, rfl, rfl⟩
  · exact ⟨hp _ hl h1, hj, by omega, by omega⟩
  · rw [e] at hl
    simp at hl
    refine ⟨hp _ (by simp; omega) (fun x hx => ?_), by omega, by omega, by omega⟩
    rcases List.mem_append.1 hx with hx | hx
    · exact h1 x hx
    · exact h2 x hx
theorem RS.dot {body : List UInt8} {j n many : Nat} (h : RS body j n many (-1)) (hx : body[j]? = some 46) : RS body (j + 1) n many 0 := by
  rcases h with ⟨_, h1, rfl, rfl⟩ | ⟨D, E, e, h1, h2, rfl, rfl, h3⟩
  · exact .inr ⟨body.take many, [], by rw [take_one hx], h1, fun x hx => by (cases hx), by simp, by
      obtain ⟨hlt, -⟩ := List.getElem?_eq_some_iff.1 hx
      rw [List.length_take]; omega, rfl⟩
  · omega
theorem RS.digit {body : List UInt8} {j n many : Nat} {behind : Int} (h : RS body j n many behind) {x : UInt8} (hx : body[j]? = some x) (hd : Dig x) :
    (behind < 0 → RS body (j + 1) (n * 10 + (x.toNat - 48)) (many + 1) behind) ∧ (0 ≤ behind → RS body (j + 1) (n * 10 + (x.toNat - 48)) many (behind + 1)) := by
  rcases h with ⟨rfl, h1, rfl, rfl⟩ | ⟨D, E, e, h1, h2, rfl, rfl, rfl⟩
  · refine ⟨fun _ => .inl ⟨rfl, fun y hy => ?_, ?_, rfl⟩, fun h => by omega⟩
    · rw [take_one hx] at hy
      rcases List.mem_append.1 hy with hy | hy
      · exact h1 y hy
      · simp only [List.mem_singleton] at hy; subst hy; exact hd
    · rw [take_one hx, val_snoc]
  · refine ⟨fun h => by omega, fun _ => .inr ⟨D, E ++ [x], by rw [take_one hx, e]; simp, h1, fun y hy => ?_, ?_, rfl, by simp⟩⟩
    · rcases List.mem_append.1 hy with hy | hy
      · exact h2 y hy
      · simp only [List.mem_singleton] at hy; subst hy; exact hd
    · rw [← List.append_assoc, val_snoc]
/-- A text of a number, behind its sign. -/
theorem shape_of {s : List UInt8} {m : Int} (h : parseN s = some m) : ∃ D a b c, TextIs m D a b c ∧ ((m < 0 ∧ s = 45 :: (D ++ [46, a, b, c])) ∨ (¬ m < 0 ∧ s = D ++ [46, a, b, c] ∧ s.head? ≠ some 45)) := by
  obtain ⟨e, hl⟩ := parse_back h
  obtain ⟨D, a, b, c, t⟩ := text_is m
  refine ⟨D, a, b, c, t, ?_⟩
  by_cases hm : m < 0
  · have := t.eq
    rw [e, if_pos hm] at this
    exact .inl ⟨hm, this⟩
  · have h1 := t.eq
    rw [e, if_neg hm] at h1
    refine .inr ⟨hm, h1, fun h2 => ?_⟩
    obtain ⟨x, l, hD⟩ := List.exists_cons_of_ne_nil t.lead.1
    rw [h1, hD] at h2
    simp at h2
    exact dig_minus (t.dig x (by rw [hD]; simp)) h2
theorem split_dot : ∀ (D D' E E' : List UInt8), (∀ x ∈ D, Dig x) → (∀ x ∈ D', Dig x) → D ++ 46 :: E = D' ++ 46 :: E' → D = D' ∧ E = E'
  | [], [], E, E', _, _, h => by simpa using h
  | [], x :: D', E, E', _, h2, h => by
    simp only [List.nil_append, List.cons_append, List.cons.injEq] at h
    exact absurd h.1.symm (dig_dot (h2 x (by simp)))
  | x :: D, [], E, E', h1, _, h => by
    simp only [List.nil_append, List.cons_append, List.cons.injEq] at h
    exact absurd h.1 (dig_dot (h1 x (by simp)))
  | x :: D, y :: D', E, E', h1, h2, h => by
    simp only [List.cons_append, List.cons.injEq] at h
    obtain ⟨e1, e2⟩ := split_dot D D' E E' (fun z hz => h1 z (by simp [hz])) (fun z hz => h2 z (by simp [hz])) h.2
    exact ⟨by rw [h.1, e1], e2⟩
/-- The sign, and what is behind it. -/
def bodyF (s : List UInt8) : List UInt8 := if s.head? = some 45 then s.drop 1 else s
theorem body_of {s : List UInt8} {m : Int} (h : parseN s = some m) : ∃ D a b c, TextIs m D a b c ∧ bodyF s = D ++ 46 :: [a, b, c] ∧ (m < 0 ↔ s.head? = some 45) := by
  obtain ⟨D, a, b, c, t, ⟨hm, e⟩ | ⟨hm, e, hh⟩⟩ := shape_of h
  · have hh : s.head? = some 45 := by rw [e]; rfl
    refine ⟨D, a, b, c, t, ?_, fun _ => hh, fun _ => hm⟩
    unfold bodyF
    rw [if_pos hh, e]
    rfl
  · refine ⟨D, a, b, c, t, ?_, fun k => absurd k hm, fun k => absurd k hh⟩
    unfold bodyF
    rw [if_neg hh]
    exact e
theorem RS.bad {s : List UInt8} {j n many : Nat} {behind : Int} (h : RS (bodyF s) j n many behind) {x : UInt8} (hx : (bodyF s)[j]? = some x) (hd : ¬ Dig x) (hb : x = 46 → 0 ≤ behind) : parseN s = none := by
  cases hp : parseN s with
  | none => rfl
  | some m =>
    exfalso
    obtain ⟨D', a, b, c, t, e, -⟩ := body_of hp
    have ht : (bodyF s).take (j + 1) = (bodyF s).take j ++ [x] := take_one hx
    have hjl := (List.getElem?_eq_some_iff.1 hx).1
    have hpos : j = D'.length ∧ x = 46 := by
      rw [e] at hx
      rcases Nat.lt_trichotomy j D'.length with h1 | h1 | h1
      · rw [List.getElem?_append_left h1] at hx
        exact absurd (t.dig x (List.mem_of_getElem? hx)) hd
      · rw [h1, List.getElem?_append_right (Nat.le_refl _), Nat.sub_self] at hx
        simp at hx
        exact ⟨h1, hx.symm⟩
      · exfalso
        rw [List.getElem?_append_right (by omega)] at hx
        obtain ⟨k, hk⟩ : ∃ k, j - D'.length = k + 1 := ⟨j - D'.length - 1, by omega⟩
        rw [hk, List.getElem?_cons_succ] at hx
        have hm := List.mem_of_getElem? hx
        simp only [List.mem_cons, List.not_mem_nil, or_false] at hm
        rcases hm with rfl | rfl | rfl
        · exact hd t.da
        · exact hd t.db
        · exact hd t.dc
    have h0 := hb hpos.2
    rcases h with ⟨rfl, -⟩ | ⟨D, E, e2, -⟩
    · omega
    · have h3 : (46 : UInt8) ∈ (bodyF s).take j := by rw [e2]; simp
      rw [e, hpos.1, List.take_left' rfl] at h3
      exact dig_dot (t.dig 46 h3) rfl
theorem RS.done {s : List UInt8} {n many : Nat} {behind : Int} (hl : s.length ≤ 12) (h : RS (bodyF s) (bodyF s).length n many behind) :
    ((behind ≠ 3 ∨ many < 1 ∨ (1 < many ∧ (bodyF s).head? = some 48) ∨ (s.head? = some 45 ∧ n = 0)) → parseN s = none) ∧
    (¬ (behind ≠ 3 ∨ many < 1 ∨ (1 < many ∧ (bodyF s).head? = some 48) ∨ (s.head? = some 45 ∧ n = 0)) → parseN s = some (if s.head? = some 45 then -(n : Int) else (n : Int))) := by
  constructor
  · intro hR
    cases hp : parseN s with
    | none => rfl
    | some m =>
      exfalso
      obtain ⟨D', a, b, c, t, e, hm⟩ := body_of hp
      rcases h with ⟨rfl, h1, -⟩ | ⟨D, E, e2, h1, h2, rfl, rfl, rfl⟩
      · rw [List.take_length] at h1
        exact dig_dot (h1 46 (by rw [e]; simp)) rfl
      · rw [List.take_length, e] at e2
        obtain ⟨rfl, rfl⟩ := split_dot _ _ _ _ t.dig h1 e2
        have hv := t.val
        rcases hR with h3 | h3 | ⟨h3, h4⟩ | ⟨h3, h4⟩
        · exact h3 rfl
        · exact t.lead.1 (List.length_eq_zero_iff.1 (by omega))
        · rcases t.lead.2 with h5 | h5
          · omega
          · apply h5
            rw [e] at h4
            obtain ⟨x, l, hD⟩ := List.exists_cons_of_ne_nil t.lead.1
            rw [hD] at h4 ⊢
            simpa using h4
        · have := hm.2 h3
          omega
  · intro hR
    simp only [not_or, not_and, Decidable.not_not] at hR
    obtain ⟨h3, h4, h5, h6⟩ := hR
    rcases h with ⟨rfl, -⟩ | ⟨D, E, e2, h1, h2, rfl, rfl, rfl⟩
    · omega
    · rw [List.take_length] at e2
      match E, h3, h2, e2 with
      | [a, b, c], _, h2, e2 =>
        have hD0 : D ≠ [] := fun e => by rw [e] at h4; exact h4 (by decide)
        have hL : Lead D := by
          refine ⟨hD0, ?_⟩
          by_cases h7 : D.length = 1
          · exact .inl h7
          · refine .inr fun h8 => ?_
            have h9 : 0 < D.length := List.length_pos_iff.2 hD0
            apply h5 (by omega)
            rw [e2]
            obtain ⟨x, l, hD⟩ := List.exists_cons_of_ne_nil hD0
            rw [hD] at h8 ⊢
            simpa using h8
        obtain ⟨t1, t2⟩ := text_of h1 hL (h2 a (by simp)) (h2 b (by simp)) (h2 c (by simp))
        unfold bodyF at e2
        by_cases hm : s.head? = some 45
        · rw [if_pos hm] at e2 ⊢
          have h10 := h6 hm
          have hs : s = 45 :: (D ++ [46, a, b, c]) := by
            cases s with
            | nil => cases hm
            | cons x s' =>
              simp at hm e2
              rw [hm, e2]
          have ht := t2 (by omega)
          rw [← hs] at ht
          rw [← ht]
          exact parse_text (by rw [ht]; exact hl)
        · rw [if_neg hm] at e2 ⊢
          rw [show s = textF (valF 0 (D ++ [a, b, c]) : Nat) from by rw [t1]; exact e2]
          exact parse_text (by rw [t1]; rw [e2] at hl; exact hl)
end Go.Proofs.YtmjcnpolnknkkaaGreatDoor
