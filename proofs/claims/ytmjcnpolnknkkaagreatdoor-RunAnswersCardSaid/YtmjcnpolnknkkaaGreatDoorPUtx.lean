/- Numbers of thousandths as text, and read back: plain laws, no program in sight. -/
import Derived.Lib.ItoaNum
import Derived.Lib.AtoiAll
set_option linter.unusedVariables false
set_option linter.unusedSimpArgs false
namespace Go.Proofs.YtmjcnpolnknkkaaGreatDoor
open Go

/-- The text of a number of thousandths. -/
def textF (n : Int) : List UInt8 := (if n < 0 then [45] else []) ++ (Lib.decDigits (n.natAbs / 1000) ++ 46 :: (List.replicate (3 - (Lib.decDigits (n.natAbs % 1000)).length) 48 ++ Lib.decDigits (n.natAbs % 1000)))
def Dig (b : UInt8) : Prop := 48 ≤ b.toNat ∧ b.toNat ≤ 57
def stepV (acc : Nat) (b : UInt8) : Nat := acc * 10 + (b.toNat - 48)
def valF (acc : Nat) (l : List UInt8) : Nat := l.foldl stepV acc
theorem valF_nil (acc : Nat) : valF acc [] = acc := List.foldl_nil
theorem valF_step (acc : Nat) (b : UInt8) (l : List UInt8) : valF acc (b :: l) = valF (stepV acc b) l := by unfold valF; rw [List.foldl_cons]
theorem valF_cons (acc : Nat) (b : UInt8) (l : List UInt8) : valF acc (b :: l) = valF (acc * 10 + (b.toNat - 48)) l := by rw [valF_step, stepV]
theorem dig_of {k : Nat} (h : k < 10) : (UInt8.ofNat (48 + k)).toNat = 48 + k := by
  rw [UInt8.toNat_ofNat']
  show (48 + k) % 256 = _
  omega
theorem dig_is {k : Nat} (h : k < 10) : Dig (UInt8.ofNat (48 + k)) := by
  unfold Dig; rw [dig_of h]; omega
theorem dig_back {b : UInt8} (h : Dig b) : UInt8.ofNat (48 + (b.toNat - 48)) = b := by
  obtain ⟨h1, h2⟩ := h
  apply UInt8.toNat_inj.1
  rw [dig_of (by omega)]; omega
theorem dd_small {u : Nat} (h : u < 10) : Lib.decDigits u = [UInt8.ofNat (48 + u)] := by rw [Lib.decDigits, dif_pos h]
theorem dd_big {u : Nat} (h : ¬ u < 10) : Lib.decDigits u = Lib.decDigits (u / 10) ++ [UInt8.ofNat (48 + u % 10)] := by rw [Lib.decDigits, dif_neg h]
theorem dd_mul {v d : Nat} (hv : 0 < v) (hd : d < 10) : Lib.decDigits (v * 10 + d) = Lib.decDigits v ++ [UInt8.ofNat (48 + d)] := by
  rw [dd_big (by omega)]
  have e1 : (v * 10 + d) / 10 = v := by omega
  have e2 : (v * 10 + d) % 10 = d := by omega
  rw [e1, e2]
theorem val_app (a : List UInt8) (acc : Nat) (b : List UInt8) : valF acc (a ++ b) = valF (valF acc a) b := by unfold valF; rw [List.foldl_append]
theorem val_le (a : List UInt8) : ∀ acc : Nat, acc ≤ valF acc a := by
  induction a with
  | nil => intro acc; rw [valF_nil]; exact Nat.le_refl _
  | cons x a ih =>
    intro acc
    have h := ih (stepV acc x)
    rw [valF_step]
    exact Nat.le_trans (by unfold stepV; omega) h
theorem dd_dig (u : Nat) : (∀ b ∈ Lib.decDigits u, Dig b) ∧ Lib.decDigits u ≠ [] ∧ valF 0 (Lib.decDigits u) = u := by
  induction u using Nat.strongRecOn with
  | _ u ih =>
    by_cases h : u < 10
    · rw [dd_small h]
      refine ⟨fun b hb => ?_, by simp, ?_⟩
      · simp only [List.mem_singleton] at hb; subst hb; exact dig_is h
      · show 0 * 10 + ((UInt8.ofNat (48 + u)).toNat - 48) = u
        rw [dig_of h]; omega
    · obtain ⟨h1, h2, h3⟩ := ih (u / 10) (by omega)
      rw [dd_big h]
      refine ⟨fun b hb => ?_, by simp, ?_⟩
      · rcases List.mem_append.1 hb with hb | hb
        · exact h1 b hb
        · simp only [List.mem_singleton] at hb; subst hb; exact dig_is (by omega)
      · have hu : u % 10 < 10 := by omega
        rw [val_app, h3, valF_cons, valF_nil, dig_of hu]; omega
/-- No needless nought ahead. -/
def Lead (l : List UInt8) : Prop := l ≠ [] ∧ (l.length = 1 ∨ l.head? ≠ some 48)
theorem dd_lead (u : Nat) : Lead (Lib.decDigits u) ∧ (0 < u → (Lib.decDigits u).head? ≠ some 48) := by
  induction u using Nat.strongRecOn with
  | _ u ih =>
    by_cases h : u < 10
    · rw [dd_small h]
      refine ⟨⟨by simp, .inl rfl⟩, fun h0 e => ?_⟩
      simp only [List.head?_cons, Option.some.injEq] at e
      have := congrArg UInt8.toNat e
      rw [dig_of h] at this
      simp at this
      omega
    · obtain ⟨⟨h1, -⟩, h2⟩ := ih (u / 10) (by omega)
      have h3 := h2 (by omega)
      rw [dd_big h]
      obtain ⟨x, t, e⟩ := List.exists_cons_of_ne_nil h1
      rw [e] at h3 ⊢
      exact ⟨⟨by simp, .inr h3⟩, fun _ => h3⟩
theorem val_pos {l : List UInt8} (hd : ∀ b ∈ l, Dig b) (hn : l ≠ []) (hh : l.head? ≠ some 48) : 0 < valF 0 l := by
  cases l with
  | nil => exact absurd rfl hn
  | cons b l =>
    rw [valF_cons]
    refine Nat.lt_of_lt_of_le ?_ (val_le l _)
    obtain ⟨h1, h2⟩ := hd b (by simp)
    rcases Nat.lt_or_ge 48 b.toNat with h | h
    · omega
    · exfalso
      apply hh
      have : b = 48 := UInt8.toNat_inj.1 (by simp; omega)
      subst this; rfl
theorem dd_val : ∀ (k : Nat) (l : List UInt8), l.length = k → (∀ b ∈ l, Dig b) → Lead l → Lib.decDigits (valF 0 l) = l
  | 0, l, hk, _, hl => absurd (List.length_eq_zero_iff.1 hk) hl.1
  | k + 1, l, hk, hd, hl => by
    rcases List.eq_nil_or_concat l with e | ⟨l', b, e⟩
    · subst e; simp at hk
    · rw [List.concat_eq_append] at e
      subst e
      have hb := hd b (by simp)
      have hd' : ∀ x ∈ l', Dig x := fun x hx => hd x (by simp [hx])
      have hk' : l'.length = k := by simpa using hk
      rw [val_app, valF_cons, valF_nil]
      by_cases h0 : l' = []
      · subst h0
        rw [valF_nil, List.nil_append]
        obtain ⟨h1, h2⟩ := hb
        rw [dd_small (by omega)]
        have := dig_back ⟨h1, h2⟩
        simpa using this
      · have hh : l'.head? ≠ some 48 := by
          rcases hl.2 with h | h
          · exfalso
            apply h0
            apply List.length_eq_zero_iff.1
            simp at h
            simpa using h
          · obtain ⟨x, t, e⟩ := List.exists_cons_of_ne_nil h0
            subst e
            simpa using h
        have hp := val_pos hd' h0 hh
        obtain ⟨h1, h2⟩ := hb
        rw [dd_mul hp (by omega), dd_val k l' hk' hd' ⟨h0, .inr hh⟩, dig_back ⟨h1, h2⟩]
theorem dd_three {r : Nat} (h : r < 1000) : List.replicate (3 - (Lib.decDigits r).length) 48 ++ Lib.decDigits r = [UInt8.ofNat (48 + r / 100), UInt8.ofNat (48 + r / 10 % 10), UInt8.ofNat (48 + r % 10)] := by
  by_cases h1 : r < 10
  · rw [dd_small h1]
    have e1 : r / 100 = 0 := by omega
    have e2 : r / 10 % 10 = 0 := by omega
    have e3 : r % 10 = r := by omega
    rw [e1, e2, e3]
    rfl
  · by_cases h2 : r < 100
    · rw [dd_big h1, dd_small (by omega)]
      have e1 : r / 100 = 0 := by omega
      have e2 : r / 10 % 10 = r / 10 := by omega
      rw [e1, e2]
      rfl
    · rw [dd_big h1, dd_big (by omega), dd_small (by omega)]
      have e1 : r / 10 / 10 = r / 100 := by omega
      rw [e1]
      rfl
theorem three_val {a b c : UInt8} (ha : Dig a) (hb : Dig b) (hc : Dig c) (v : Nat) : valF v [a, b, c] = v * 1000 + valF 0 [a, b, c] ∧ valF 0 [a, b, c] < 1000 ∧ [UInt8.ofNat (48 + valF 0 [a, b, c] / 100), UInt8.ofNat (48 + valF 0 [a, b, c] / 10 % 10), UInt8.ofNat (48 + valF 0 [a, b, c] % 10)] = [a, b, c] := by
  have d1 := dig_back ha; have d2 := dig_back hb; have d3 := dig_back hc
  obtain ⟨a1, a2⟩ := ha; obtain ⟨b1, b2⟩ := hb; obtain ⟨c1, c2⟩ := hc
  simp only [valF_cons, valF_nil]
  refine ⟨by omega, by omega, ?_⟩
  have e1 : (((0 * 10 + (a.toNat - 48)) * 10 + (b.toNat - 48)) * 10 + (c.toNat - 48)) / 100 = a.toNat - 48 := by omega
  have e2 : (((0 * 10 + (a.toNat - 48)) * 10 + (b.toNat - 48)) * 10 + (c.toNat - 48)) / 10 % 10 = b.toNat - 48 := by omega
  have e3 : (((0 * 10 + (a.toNat - 48)) * 10 + (b.toNat - 48)) * 10 + (c.toNat - 48)) % 10 = c.toNat - 48 := by omega
  rw [e1, e2, e3, d1, d2, d3]
/-- The text of a number, its parts: digits, a point, three digits. -/
structure TextIs (n : Int) (D : List UInt8) (a b c : UInt8) : Prop where
  eq : textF n = (if n < 0 then [45] else []) ++ (D ++ [46, a, b, c])
  dig : ∀ x ∈ D, Dig x
  lead : Lead D
  da : Dig a
  db : Dig b
  dc : Dig c
  val : valF 0 (D ++ [a, b, c]) = n.natAbs
theorem text_is (n : Int) : ∃ D a b c, TextIs n D a b c := by
  refine ⟨Lib.decDigits (n.natAbs / 1000), _, _, _, ⟨by unfold textF; rw [dd_three (by omega)], (dd_dig _).1, (dd_lead _).1, dig_is (by omega), dig_is (by omega), dig_is (by omega), ?_⟩⟩
  rw [val_app, (dd_dig _).2.2]
  have k1 : n.natAbs % 1000 / 100 < 10 := by omega
  have k2 : n.natAbs % 1000 / 10 % 10 < 10 := by omega
  have k3 : n.natAbs % 1000 % 10 < 10 := by omega
  rw [valF_cons, valF_cons, valF_cons, valF_nil, dig_of k1, dig_of k2, dig_of k3]
  omega
theorem text_of {D : List UInt8} {a b c : UInt8} (hd : ∀ x ∈ D, Dig x) (hl : Lead D) (ha : Dig a) (hb : Dig b) (hc : Dig c) : textF (valF 0 (D ++ [a, b, c]) : Nat) = D ++ [46, a, b, c] ∧ (0 < valF 0 (D ++ [a, b, c]) → textF (-(valF 0 (D ++ [a, b, c]) : Nat)) = 45 :: (D ++ [46, a, b, c])) := by
  have e : valF 0 (D ++ [a, b, c]) = valF 0 D * 1000 + valF 0 [a, b, c] := by rw [val_app]; exact (three_val ha hb hc _).1
  obtain ⟨-, h1, h2⟩ := three_val ha hb hc 0
  have e1 : (valF 0 D * 1000 + valF 0 [a, b, c]) / 1000 = valF 0 D := by omega
  have e2 : (valF 0 D * 1000 + valF 0 [a, b, c]) % 1000 = valF 0 [a, b, c] := by omega
  have hk : ∀ n : Int, n.natAbs = valF 0 D * 1000 + valF 0 [a, b, c] → textF n = (if n < 0 then [45] else []) ++ (D ++ [46, a, b, c]) := fun n hn => by
    unfold textF
    rw [hn, e1, e2, dd_three h1, h2, dd_val _ D rfl hd hl]
  constructor
  · rw [hk _ (by rw [e]; omega), if_neg (by omega)]
    rfl
  · intro h0
    rw [hk _ (by rw [e]; omega), if_pos (by omega)]
    rfl
theorem dig_dot {x : UInt8} (h : Dig x) : x ≠ 46 := fun e => by subst e; exact absurd h.1 (by decide)
theorem dig_minus {x : UInt8} (h : Dig x) : x ≠ 45 := fun e => by subst e; exact absurd h.1 (by decide)
/-- Digits, read by strconv. -/
theorem pu_val (l : List UInt8) : ∀ acc : Nat, (∀ b ∈ l, Dig b) → valF acc l < 1000000000000000000 → Lib.parseUint10 acc l = .ok (valF acc l) := by
  induction l with
  | nil => intro acc _ _; unfold Lib.parseUint10; rw [valF_nil]
  | cons b l ih =>
    intro acc hd hv
    have hb := hd b (by simp)
    rw [valF_cons] at hv ⊢
    have h1 := val_le l (acc * 10 + (b.toNat - 48))
    have h2 := ih (acc * 10 + (b.toNat - 48)) (fun x hx => hd x (by simp [hx])) hv
    unfold Lib.parseUint10
    rw [if_pos (show 48 ≤ b.toNat ∧ b.toNat ≤ 57 from hb), if_neg (by omega), if_neg (by omega)]
    exact h2
theorem val_bd (l : List UInt8) : ∀ acc : Nat, (∀ b ∈ l, Dig b) → valF acc l < (acc + 1) * 10 ^ l.length := by
  induction l with
  | nil => intro acc _; rw [valF_nil]; simp
  | cons b l ih =>
    intro acc hd
    have hb := hd b (by simp)
    have h := ih (acc * 10 + (b.toNat - 48)) (fun x hx => hd x (by simp [hx]))
    rw [valF_cons, List.length_cons]
    refine Nat.lt_of_lt_of_le h ?_
    rw [Nat.pow_succ, Nat.mul_comm (10 ^ l.length) 10, ← Nat.mul_assoc]
    exact Nat.mul_le_mul_right _ (by obtain ⟨h1, h2⟩ := hb; omega)
theorem atoi_pos {l : List UInt8} (hd : ∀ b ∈ l, Dig b) (hn : l ≠ []) (hv : valF 0 l < 1000000000000000000) : Lib.atoiAll l = .ok (valF 0 l : Nat) ∧ Lib.atoiAll (45 :: l) = .ok (-(valF 0 l : Nat)) := by
  constructor
  · obtain ⟨x, t, rfl⟩ := List.exists_cons_of_ne_nil hn
    have hx := hd x (by simp)
    have h1 : ¬ (x.toNat = 43 ∨ x.toNat = 45) := by obtain ⟨h, -⟩ := hx; omega
    unfold Lib.atoiAll
    dsimp only
    rw [if_neg h1]
    have h2 : Lib.parseMag (x :: t) = .ok (valF 0 (x :: t)) := by unfold Lib.parseMag; rw [if_neg (by simp)]; exact pu_val _ 0 hd hv
    rw [h2]
    dsimp only
    have h3 : ¬ x.toNat = 45 := by omega
    rw [if_neg (by omega), if_neg (by omega), if_neg h3]
  · unfold Lib.atoiAll
    dsimp only
    rw [if_pos (by decide)]
    have h2 : Lib.parseMag l = .ok (valF 0 l) := by unfold Lib.parseMag; rw [if_neg hn]; exact pu_val _ 0 hd hv
    rw [h2]
    have h3 : (45 : UInt8).toNat = 45 := rfl
    dsimp only
    rw [if_neg (by omega), if_neg (by omega), if_pos h3]
/-- A text as a number, as it stands; then whether it may be. -/
def parseN (s : List UInt8) : Option Int :=
  if s.length ≤ 12 then match Lib.atoiAll (s.erase 46) with
    | .ok n => if textF n = s then some n else none
    | _ => none
  else none
def parseF (s : List UInt8) : Except Nat Int := match parseN s with
  | none => .error 2
  | some n => if -1000000000 ≤ n ∧ n ≤ 1000000000 then .ok n else .error 1
theorem erase_at {D r : List UInt8} (h : ∀ x ∈ D, x ≠ 46) : (D ++ 46 :: r).erase 46 = D ++ r := by
  rw [List.erase_append_right _ (fun hm => h 46 hm rfl)]
  simp
theorem parse_text {n : Int} (h : (textF n).length ≤ 12) : parseN (textF n) = some n := by
  obtain ⟨D, a, b, c, t⟩ := text_is n
  have hdd : ∀ x ∈ D ++ [a, b, c], Dig x := fun x hx => by
    rcases List.mem_append.1 hx with hx | hx
    · exact t.dig x hx
    · simp only [List.mem_cons, List.not_mem_nil, or_false] at hx
      rcases hx with rfl | rfl | rfl
      · exact t.da
      · exact t.db
      · exact t.dc
  have hlen : D.length ≤ 8 := by rw [t.eq] at h; simp at h; omega
  have hv : valF 0 (D ++ [a, b, c]) < 1000000000000000000 := by
    have h1 := val_bd (D ++ [a, b, c]) 0 hdd
    have h2 : (10 : Nat) ^ (D ++ [a, b, c]).length ≤ 10 ^ 11 := Nat.pow_le_pow_right (by decide) (by simp; omega)
    omega
  obtain ⟨p1, p2⟩ := atoi_pos hdd (by simp) hv
  unfold parseN
  rw [if_pos h]
  by_cases hn : n < 0
  · have e : (textF n).erase 46 = 45 :: (D ++ [a, b, c]) := by
      rw [t.eq, if_pos hn]
      show (45 :: (D ++ 46 :: [a, b, c])).erase 46 = _
      rw [List.erase_cons_tail (by decide), erase_at (fun x hx => dig_dot (t.dig x hx))]
    rw [e, p2]
    have e2 : -((valF 0 (D ++ [a, b, c]) : Nat) : Int) = n := by rw [t.val]; omega
    dsimp only
    rw [e2, if_pos rfl]
  · have e : (textF n).erase 46 = D ++ [a, b, c] := by
      rw [t.eq, if_neg hn]
      show (D ++ 46 :: [a, b, c]).erase 46 = _
      rw [erase_at (fun x hx => dig_dot (t.dig x hx))]
    rw [e, p1]
    have e2 : ((valF 0 (D ++ [a, b, c]) : Nat) : Int) = n := by rw [t.val]; omega
    dsimp only
    rw [e2, if_pos rfl]
theorem parse_back {s : List UInt8} {n : Int} (h : parseN s = some n) : textF n = s ∧ s.length ≤ 12 := by
  unfold parseN at h
  split at h
  · rename_i hl
    split at h
    · split at h
      · rename_i h2
        injection h with h
        subst h
        exact ⟨h2, hl⟩
      · cases h
    · cases h
  · cases h
theorem text_len {n : Int} (h : -1000000000 ≤ n ∧ n ≤ 1000000000) : (textF n).length ≤ 12 := by
  have hd : ∀ (k u : Nat), u < 10 ^ (k + 1) → (Lib.decDigits u).length ≤ k + 1 := by
    intro k
    induction k with
    | zero => intro u hu; rw [dd_small (by omega)]; simp
    | succ k ih =>
      intro u hu
      by_cases h1 : u < 10
      · rw [dd_small h1]; simp
      · rw [dd_big h1]
        have := ih (u / 10) (by rw [Nat.pow_succ] at hu; omega)
        simp; omega
  have h1 := hd 6 (n.natAbs / 1000) (by omega)
  unfold textF
  rw [dd_three (by omega)]
  split <;> simp <;> omega
theorem parse_textF {n : Int} (h : -1000000000 ≤ n ∧ n ≤ 1000000000) : parseF (textF n) = .ok n := by
  unfold parseF
  rw [parse_text (text_len h)]
  dsimp only
  rw [if_pos h]
end Go.Proofs.YtmjcnpolnknkkaaGreatDoor
