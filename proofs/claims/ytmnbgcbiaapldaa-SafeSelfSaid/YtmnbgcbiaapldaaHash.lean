/- Plain laws, no program in sight: boxes: halves, hulls, what two meet in. -/
import Derived.Test.YtmnbgcbiaapldaaHasg
set_option linter.unusedVariables false
set_option linter.unusedSimpArgs false
namespace Go.Proofs.Ytmnbgcbiaapldaa

abbrev sAt (b : List Sp) (i : Nat) : Sp := b[i]?.getD ⟨0, 0⟩
abbrev nAt (x : List Int) (i : Nat) : Int := x[i]?.getD 0
theorem inside_iff : ∀ {b : List Sp} {x : List Int}, Inside b x ↔ x.length = b.length ∧ ∀ i, i < b.length → (sAt b i).lo ≤ nAt x i ∧ nAt x i ≤ (sAt b i).hi
  | [], [] => by simp [Inside]
  | [], _ :: _ => by simp [Inside]
  | _ :: _, [] => by simp [Inside]
  | s :: b, n :: x => by
    unfold Inside
    rw [inside_iff (b := b) (x := x)]
    constructor
    · rintro ⟨h1, h2, h3, h4⟩
      refine ⟨by simpa using h3, fun i hi => ?_⟩
      match i with
      | 0 => exact ⟨h1, h2⟩
      | i + 1 => simpa [sAt, nAt] using h4 i (by simpa using hi)
    · rintro ⟨h1, h2⟩
      have h0 := h2 0 (by simp)
      refine ⟨by simpa [sAt, nAt] using h0.1, by simpa [sAt, nAt] using h0.2, by simpa using h1, fun i hi => ?_⟩
      simpa [sAt, nAt] using h2 (i + 1) (by simpa using hi)
theorem widestG_lt {n : Nat} : ∀ (l : List Sp) (i a : Nat) (w : Int), a < n → i + l.length ≤ n → widestG l i a w < n
  | [], i, a, w, h, _ => by unfold widestG; exact h
  | s :: l, i, a, w, h, hi => by
    simp at hi
    unfold widestG
    split
    · exact widestG_lt l (i + 1) i _ (by omega) (by omega)
    · exact widestG_lt l (i + 1) a _ h (by omega)
theorem widestF_lt {b : List Sp} (h : 0 < b.length) : widestF b < b.length := widestG_lt b 0 0 _ h (by omega)
theorem set_at {b : List Sp} {k i : Nat} {s : Sp} (hk : k < b.length) : sAt (b.set k s) i = if i = k then s else sAt b i := by
  unfold sAt
  by_cases h : i = k
  · subst h; simp [hk]
  · rw [if_neg h, List.getElem?_set_ne (by omega)]
theorem halves_len (b : List Sp) : (halvesF b).1.length = b.length ∧ (halvesF b).2.length = b.length := by unfold halvesF; simp
theorem halves_at {b : List Sp} (h : 0 < b.length) (i : Nat) : sAt (halvesF b).1 i = (if i = widestF b then ⟨(sAt b i).lo, halfF (sAt b i)⟩ else sAt b i) ∧ sAt (halvesF b).2 i = (if i = widestF b then ⟨halfF (sAt b i), (sAt b i).hi⟩ else sAt b i) := by
  unfold halvesF
  dsimp only
  rw [set_at (widestF_lt h), set_at (widestF_lt h)]
  constructor
  · split
    · rename_i e; rw [← e]
    · rfl
  · split
    · rename_i e; rw [← e]
    · rfl
theorem half_mid {s : Sp} (h : s.lo ≤ s.hi) : s.lo ≤ halfF s ∧ halfF s ≤ s.hi := by unfold halfF dn; omega
theorem mem_at {b : List Sp} {i : Nat} (h : i < b.length) : sAt b i ∈ b := by
  unfold sAt
  rw [List.getElem?_eq_getElem h]
  exact List.getElem_mem h
theorem halves_in {b : List Sp} (h0 : 0 < b.length) (hb : ∀ s ∈ b, s.lo ≤ s.hi) (x : List Int) : Inside b x ↔ Inside (halvesF b).1 x ∨ Inside (halvesF b).2 x := by
  obtain ⟨l1, l2⟩ := halves_len b
  rw [inside_iff, inside_iff, inside_iff, l1, l2]
  have hw := widestF_lt h0
  have hm := half_mid (hb _ (mem_at hw))
  constructor
  · rintro ⟨k1, k2⟩
    by_cases hq : nAt x (widestF b) ≤ halfF (sAt b (widestF b))
    · refine .inl ⟨k1, fun i hi => ?_⟩
      rw [(halves_at h0 i).1]
      have := k2 i hi
      split
      · rename_i e; subst e; exact ⟨this.1, hq⟩
      · exact this
    · refine .inr ⟨k1, fun i hi => ?_⟩
      rw [(halves_at h0 i).2]
      have := k2 i hi
      split
      · rename_i e; subst e; exact ⟨by dsimp only; omega, this.2⟩
      · exact this
  · rintro (⟨k1, k2⟩ | ⟨k1, k2⟩)
    · refine ⟨k1, fun i hi => ?_⟩
      have := k2 i hi
      rw [(halves_at h0 i).1] at this
      split at this
      · rename_i e; subst e; dsimp only at this; omega
      · exact this
    · refine ⟨k1, fun i hi => ?_⟩
      have := k2 i hi
      rw [(halves_at h0 i).2] at this
      split at this
      · rename_i e; subst e; dsimp only at this; omega
      · exact this
theorem bboth_at {a b : List Sp} {i : Nat} (h : a.length = b.length) (hi : i < a.length) : sAt (bbothF a b) i = bothF (sAt a i) (sAt b i) := by
  unfold sAt bbothF
  rw [List.getElem?_zipWith]
  rw [List.getElem?_eq_getElem hi, List.getElem?_eq_getElem (show i < b.length by omega)]
  rfl
theorem bboth_len {a b : List Sp} (h : a.length = b.length) : (bbothF a b).length = a.length := by simp [bbothF, h]
theorem ext_at {a b : List Sp} (hl : a.length = b.length) (h : ∀ i, i < a.length → sAt a i = sAt b i) : a = b := by
  apply List.ext_getElem hl
  intro i h1 h2
  have := h i h1
  unfold sAt at this
  rw [List.getElem?_eq_getElem h1, List.getElem?_eq_getElem h2] at this
  exact this
theorem halves_hull {b : List Sp} (h0 : 0 < b.length) (hb : ∀ s ∈ b, s.lo ≤ s.hi) : bbothF (halvesF b).1 (halvesF b).2 = b := by
  obtain ⟨l1, l2⟩ := halves_len b
  apply ext_at (by rw [bboth_len (by omega), l1])
  intro i hi
  rw [bboth_len (by omega), l1] at hi
  rw [bboth_at (by omega) (by omega), (halves_at h0 i).1, (halves_at h0 i).2]
  have hs := hb _ (mem_at hi)
  have hm := half_mid hs
  split
  · apply Sp.ext'
    · unfold bothF; dsimp only; omega
    · unfold bothF; dsimp only; omega
  · apply Sp.ext'
    · unfold bothF; dsimp only; omega
    · unfold bothF; dsimp only; omega
theorem halves_rt {b : List Sp} (h0 : 0 < b.length) (hb : ∀ s ∈ b, Rt s) : (∀ s ∈ (halvesF b).1, Rt s) ∧ (∀ s ∈ (halvesF b).2, Rt s) := by
  have hw := widestF_lt h0
  obtain ⟨⟨a1, a2⟩, ⟨a3, a4⟩, a5⟩ := hb _ (mem_at hw)
  have hm := half_mid a5
  constructor
  · intro s hs
    unfold halvesF at hs
    rcases List.mem_or_eq_of_mem_set hs with h | h
    · exact hb s h
    · rw [h]
      exact ⟨⟨a1, a2⟩, ⟨Int.le_trans a1 hm.1, Int.le_trans hm.2 a4⟩, hm.1⟩
  · intro s hs
    unfold halvesF at hs
    rcases List.mem_or_eq_of_mem_set hs with h | h
    · exact hb s h
    · rw [h]
      exact ⟨⟨Int.le_trans a1 hm.1, Int.le_trans hm.2 a4⟩, ⟨a3, a4⟩, hm.2⟩
theorem halves_bx {b : List Sp} (hb : Bx b) : Bx (halvesF b).1 ∧ Bx (halvesF b).2 := by
  obtain ⟨l1, l2⟩ := halves_len b
  obtain ⟨r1, r2⟩ := halves_rt hb.pos hb.spans
  have := hb.pos
  have := hb.few
  exact ⟨⟨by omega, by omega, r1⟩, ⟨by omega, by omega, r2⟩⟩
theorem parts_iff : ∀ {a b : List Sp}, Parts a b ↔ a.length = b.length ∧ ∀ i, i < a.length → (sAt a i).lo ≤ (sAt a i).hi ∧ Sub (sAt a i) (sAt b i)
  | [], [] => by simp [Parts]
  | [], _ :: _ => by simp [Parts]
  | _ :: _, [] => by simp [Parts]
  | s :: a, t :: b => by
    unfold Parts
    rw [parts_iff (a := a) (b := b)]
    constructor
    · rintro ⟨h1, h2, h3, h4⟩
      refine ⟨by simpa using h3, fun i hi => ?_⟩
      match i with
      | 0 => exact ⟨h1, h2⟩
      | i + 1 => simpa [sAt] using h4 i (by simpa using hi)
    · rintro ⟨h1, h2⟩
      have h0 := h2 0 (by simp)
      refine ⟨by simpa [sAt] using h0.1, by simpa [sAt] using h0.2, by simpa using h1, fun i hi => ?_⟩
      simpa [sAt] using h2 (i + 1) (by simpa using hi)
theorem Parts.trans {a b c : List Sp} (h : Parts a b) (h' : Parts b c) : Parts a c := by
  rw [parts_iff] at *
  refine ⟨by omega, fun i hi => ⟨(h.2 i hi).1, (h.2 i hi).2.trans (h'.2 i (by omega)).2⟩⟩
theorem halves_parts {b : List Sp} (h0 : 0 < b.length) (hb : ∀ s ∈ b, s.lo ≤ s.hi) : Parts (halvesF b).1 b ∧ Parts (halvesF b).2 b := by
  obtain ⟨l1, l2⟩ := halves_len b
  rw [parts_iff, parts_iff]
  refine ⟨⟨l1, fun i hi => ?_⟩, ⟨l2, fun i hi => ?_⟩⟩
  · rw [(halves_at h0 i).1]
    have hs := hb _ (mem_at (show i < b.length by omega))
    have hm := half_mid hs
    unfold Sub
    split <;> (try dsimp only) <;> omega
  · rw [(halves_at h0 i).2]
    have hs := hb _ (mem_at (show i < b.length by omega))
    have hm := half_mid hs
    unfold Sub
    split <;> (try dsimp only) <;> omega
theorem hull_parts {a b c : List Sp} (h1 : Parts a c) (h2 : Parts b c) : Parts (bbothF a b) c := by
  rw [parts_iff] at *
  have hl : a.length = b.length := by omega
  refine ⟨by rw [bboth_len hl]; omega, fun i hi => ?_⟩
  rw [bboth_len hl] at hi
  rw [bboth_at hl hi]
  have k1 := h1.2 i hi
  have k2 := h2.2 i (by omega)
  unfold Sub bothF at *
  dsimp only
  omega
theorem parts_hull {a b : List Sp} (hl : a.length = b.length) (ha : ∀ s ∈ a, s.lo ≤ s.hi) (hb : ∀ s ∈ b, s.lo ≤ s.hi) : Parts a (bbothF a b) ∧ Parts b (bbothF a b) := by
  rw [parts_iff, parts_iff]
  refine ⟨⟨by rw [bboth_len hl], fun i hi => ?_⟩, ⟨by rw [bboth_len hl]; omega, fun i hi => ?_⟩⟩
  · rw [bboth_at hl hi]
    have := ha _ (mem_at hi)
    unfold Sub bothF
    dsimp only
    omega
  · rw [bboth_at hl (by omega)]
    have := hb _ (mem_at hi)
    unfold Sub bothF
    dsimp only
    omega
theorem bcom_ok : ∀ {a b m : List Sp} {x : List Int}, a.length = b.length → bcomF a b = .ok m → (Inside m x ↔ Inside a x ∧ Inside b x) ∧ m.length = a.length ∧ ((∀ s ∈ a, Rt s) → (∀ s ∈ b, Rt s) → ∀ s ∈ m, Rt s)
  | [], [], m, x, _, h => by
    unfold bcomF at h
    injection h with h
    subst h
    exact ⟨by simp, rfl, fun _ _ s hs => by cases hs⟩
  | [], _ :: _, _, _, hl, _ => by simp at hl
  | _ :: _, [], _, _, hl, _ => by simp at hl
  | s :: a, t :: b, m, x, hl, h => by
    unfold bcomF at h
    cases e1 : comF s t with
    | error e => rw [e1] at h; cases h
    | ok u =>
      rw [e1] at h
      dsimp only at h
      cases e2 : bcomF a b with
      | error e => rw [e2] at h; cases h
      | ok l =>
        rw [e2] at h
        injection h with h
        subst h
        unfold comF at e1
        split at e1
        · cases e1
        · injection e1 with e1
          subst e1
          refine ⟨?_, ?_, ?_⟩
          · match x with
            | [] => simp [Inside]
            | n :: x =>
              obtain ⟨ih, -, -⟩ := bcom_ok (x := x) (by simpa using hl) e2
              unfold Inside
              dsimp only
              rw [ih]
              constructor
              · rintro ⟨h1, h2, h3, h4⟩
                exact ⟨⟨by omega, by omega, h3⟩, ⟨by omega, by omega, h4⟩⟩
              · rintro ⟨⟨h1, h2, h3⟩, ⟨h4, h5, h6⟩⟩
                exact ⟨by omega, by omega, h3, h6⟩
          · obtain ⟨-, ih, -⟩ := bcom_ok (x := []) (by simpa using hl) e2
            simp [ih]
          · intro ha hb p hp
            obtain ⟨-, -, ih⟩ := bcom_ok (x := []) (by simpa using hl) e2
            rcases List.mem_cons.1 hp with e | e
            · rw [e]
              obtain ⟨⟨a1, a2⟩, ⟨a3, a4⟩, a5⟩ := ha s (by simp)
              obtain ⟨⟨b1, b2⟩, ⟨b3, b4⟩, b5⟩ := hb t (by simp)
              refine ⟨⟨?_, ?_⟩, ⟨?_, ?_⟩, ?_⟩ <;> dsimp only <;> omega
            · exact ih (fun q hq => ha q (by simp [hq])) (fun q hq => hb q (by simp [hq])) p e
theorem bcom_bad : ∀ {a b : List Sp} {x : List Int} {e : Nat}, a.length = b.length → bcomF a b = .error e → ¬ (Inside a x ∧ Inside b x)
  | [], [], _, _, _, h => by unfold bcomF at h; cases h
  | [], _ :: _, _, _, hl, _ => by simp at hl
  | _ :: _, [], _, _, hl, _ => by simp at hl
  | s :: a, t :: b, x, e, hl, h => by
    rintro ⟨h1, h2⟩
    match x, h1, h2 with
    | [], h1, _ => exact h1
    | n :: x, h1, h2 =>
      obtain ⟨a1, a2, a3⟩ := h1
      obtain ⟨b1, b2, b3⟩ := h2
      unfold bcomF at h
      cases e1 : comF s t with
      | error e' =>
        unfold comF at e1
        split at e1
        · omega
        · cases e1
      | ok u =>
        rw [e1] at h
        dsimp only at h
        cases e2 : bcomF a b with
        | error e' => exact bcom_bad (by simpa using hl) e2 ⟨a3, b3⟩
        | ok l => rw [e2] at h; cases h
end Go.Proofs.Ytmnbgcbiaapldaa
