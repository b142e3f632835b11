/- Plain laws, no program in sight: pieces of a box and a step of all; what grows till it holds; where nothing changes. -/
import Derived.Test.YtmnbgcbiaapldaaHasg
import Derived.Test.YtmnbgcbiaapldaaHash
set_option linter.unusedVariables false
set_option linter.unusedSimpArgs false
namespace Go.Proofs.Ytmnbgcbiaapldaa

theorem Parts.self : ∀ {a b : List Sp}, Parts a b → Parts a a
  | [], _, _ => trivial
  | s :: a, [], h => h.elim
  | s :: a, t :: b, h => ⟨h.1, Sub.refl s, Parts.self h.2.2⟩
theorem Parts.lo : ∀ {a b : List Sp}, Parts a b → ∀ s ∈ a, s.lo ≤ s.hi
  | [], _, _, s, hs => by cases hs
  | s :: a, [], h, _, _ => h.elim
  | t :: a, u :: b, h, s, hs => by
    rcases List.mem_cons.1 hs with e | e
    · rw [e]; exact h.1
    · exact Parts.lo h.2.2 s e
theorem pieces_ne : ∀ (n : Nat) (b : List Sp), cpiecesG n b ≠ []
  | 0, b => by unfold cpiecesG; simp
  | n + 1, b => by
    unfold cpiecesG
    intro h
    exact pieces_ne n _ (List.append_eq_nil_iff.1 h).1
theorem pieces_all : ∀ (n : Nat) (b : List Sp), Bx b → ∀ p ∈ cpiecesG n b, Bx p ∧ Parts p b
  | 0, b, hb, p, hp => by
    unfold cpiecesG at hp
    rw [List.mem_singleton.1 hp]
    exact ⟨hb, parts_refl hb.spans⟩
  | n + 1, b, hb, p, hp => by
    unfold cpiecesG at hp
    have hlo : ∀ s ∈ b, s.lo ≤ s.hi := fun s hs => (hb.spans s hs).2.2
    have h1 := halves_bx hb
    have h2 := halves_parts hb.pos hlo
    rcases List.mem_append.1 hp with h | h
    · obtain ⟨k1, k2⟩ := pieces_all n _ h1.1 p h
      exact ⟨k1, k2.trans h2.1⟩
    · obtain ⟨k1, k2⟩ := pieces_all n _ h1.2 p h
      exact ⟨k1, k2.trans h2.2⟩
theorem pieces_pt : ∀ (n : Nat) (b : List Sp) (x : List Int), Bx b → Inside b x → ∃ p ∈ cpiecesG n b, Inside p x
  | 0, b, x, hb, hx => ⟨b, by unfold cpiecesG; simp, hx⟩
  | n + 1, b, x, hb, hx => by
    have hlo : ∀ s ∈ b, s.lo ≤ s.hi := fun s hs => (hb.spans s hs).2.2
    have h1 := halves_bx hb
    unfold cpiecesG
    rcases (halves_in hb.pos hlo x).1 hx with h | h
    · obtain ⟨p, k1, k2⟩ := pieces_pt n _ x h1.1 h
      exact ⟨p, List.mem_append.2 (.inl k1), k2⟩
    · obtain ⟨p, k1, k2⟩ := pieces_pt n _ x h1.2 h
      exact ⟨p, List.mem_append.2 (.inr k1), k2⟩
theorem coverG_ok {s : Sy} (hs : Good s) {b y : List Sp} (hy : nextF s b = .ok y) : ∀ (l : List (List Sp)) (o : Option (List Sp)), (∀ p ∈ l, Parts p b) → (∀ a, o = some a → Parts a y) → (l ≠ [] ∨ o ≠ none) →
    ∃ z, coverG s o l = .ok z ∧ Parts z y ∧ (∀ a, o = some a → Parts a z) ∧ ∀ p ∈ l, ∀ x, nextF s p = .ok x → Parts x z
  | [], o, _, ho, hne => by
    cases o with
    | none => simp at hne
    | some a => exact ⟨a, rfl, ho a rfl, fun a' e => by injection e with e; rw [← e]; exact (ho a rfl).self, fun p hp => by cases hp⟩
  | p :: l, o, hl, ho, _ => by
    obtain ⟨x, h1, h2⟩ := next_part hs (hl p (by simp)) hy
    have hl' : ∀ q ∈ l, Parts q b := fun q hq => hl q (by simp [hq])
    cases o with
    | none =>
      obtain ⟨z, k1, k2, k3, k4⟩ := coverG_ok hs hy l (some x) hl' (fun a e => by injection e with e; rw [← e]; exact h2) (.inr (by simp))
      refine ⟨z, ?_, k2, fun a e => (by cases e), fun q hq u hu => ?_⟩
      · unfold coverG
        rw [h1]
        exact k1
      · rcases List.mem_cons.1 hq with e | e
        · rw [e, h1] at hu
          injection hu with hu
          rw [← hu]; exact k3 x rfl
        · exact k4 q e u hu
    | some a =>
      have ha := ho a rfl
      have hal : a.length = x.length := ha.len.trans h2.len.symm
      obtain ⟨z, k1, k2, k3, k4⟩ := coverG_ok hs hy l (some (bbothF a x)) hl' (fun a' e => by injection e with e; rw [← e]; exact hull_parts ha h2) (.inr (by simp))
      have hh := parts_hull hal ha.lo h2.lo
      refine ⟨z, ?_, k2, fun a' e => ?_, fun q hq u hu => ?_⟩
      · unfold coverG
        rw [h1]
        exact k1
      · injection e with e
        rw [← e]
        exact hh.1.trans (k3 _ rfl)
      · rcases List.mem_cons.1 hq with e | e
        · rw [e, h1] at hu
          injection hu with hu
          rw [← hu]
          exact hh.2.trans (k3 _ rfl)
        · exact k4 q e u hu
theorem ycheck_ne {s : Sy} {x q z : List Int} (h : ypointF s x q = .ok z) : ycheckF s = none := (orErr_parts h).1
/-- A step in pieces: it is told, it is no wider, and no point falls out. -/
theorem cover_ok {s : Sy} {b c y : List Sp} {depth : Int} (hc : ycheckF s = none) (hb : Bx c) (hl : c.length = s.next.length) (hp : Parts c b) (hy : nextF s b = .ok y) (h0 : 0 ≤ depth) (h5 : depth ≤ 5) :
    ∃ z, coverF s c depth = .ok z ∧ Parts z y ∧ ∀ x q u, Inside c x → ypointF s x q = .ok u → Inside z u := by
  have hs := ycheck_good hc
  have ha := pieces_all depth.toNat c hb
  obtain ⟨z, k1, k2, -, k4⟩ := coverG_ok hs hy (cpiecesG depth.toNat c) none (fun p h => (ha p h).2.trans hp) (fun a e => by cases e) (.inl (pieces_ne _ _))
  refine ⟨z, ?_, k2, fun x q u hx hu => ?_⟩
  · unfold coverF cpiecesF
    rw [hc]
    simp only [orErr]
    rw [hb.check]
    simp only [orErr]
    rw [if_neg (by omega)]
    dsimp only
    rw [if_pos hl]
    exact k1
  · obtain ⟨p, m1, m2⟩ := pieces_pt depth.toNat c x hb hx
    obtain ⟨v, n1, n2⟩ := next_part hs ((ha p m1).2.trans hp) hy
    exact (k4 p m1 v n1).inside (step_in m2 n1 hu)
theorem cover_none (s : Sy) (b : List Sp) : coverF s b 0 = ofF s b := by
  unfold coverF ofF readyF cpiecesF
  cases ycheckF s with
  | some e => rfl
  | none =>
    simp only [orErr]
    cases bcheckF b with
    | some e => rfl
    | none =>
      simp only [orErr]
      rw [if_neg (by omega)]
      dsimp only
      by_cases hl : b.length = s.next.length
      · rw [if_pos hl, if_pos hl]
        show coverG s none [b] = _
        unfold coverG
        cases nextF s b with
        | error e => rfl
        | ok x => rfl
      · rw [if_neg hl, if_neg hl]
theorem cover_bad {s : Sy} {b z : List Sp} {depth : Int} (h : coverF s b depth = .ok z) : 0 ≤ depth ∧ depth ≤ 5 := by
  unfold coverF cpiecesF at h
  obtain ⟨-, h1⟩ := orErr_parts h
  cases e : bcheckF b with
  | some n => rw [e] at h1; cases h1
  | none =>
    rw [e] at h1
    simp only [orErr] at h1
    split at h1
    · cases h1
    · rename_i l hh
      split at hh
      · cases hh
      · omega
-- what grows
theorem wider_part {by_ : Int} (h0 : 0 ≤ by_) : ∀ (b c : List Sp), (∀ s ∈ b, s.lo ≤ s.hi) → widerF by_ b = .ok c → Parts b c
  | [], c, _, h => by
    unfold widerF at h
    injection h with h
    rw [← h]
    trivial
  | s :: b, c, hb, h => by
    unfold widerF at h
    split at h
    · cases h
    · split at h
      · cases h
      · rename_i l hl
        injection h with h
        rw [← h]
        exact ⟨hb s (by simp), ⟨by dsimp only; omega, by dsimp only; omega⟩, wider_part h0 b l (fun t ht => hb t (by simp [ht])) hl⟩
theorem isF_ok {s : Sy} {b : List Sp} {v : Bool} (h : isF s b = .ok v) : ∃ y, ofF s b = .ok y ∧ v = inF y b := by
  unfold isF at h
  split at h
  · cases h
  · rename_i x hx
    injection h with h
    exact ⟨x, hx, h.symm⟩
theorem growG_ok {s : Sy} {by_ : Int} (h0 : 0 ≤ by_) : ∀ (n : Nat) (b c : List Sp), growG s by_ n b = .ok c → isF s c = .ok true ∧ Bx b ∧ Parts b c
  | 0, b, c, h => by
    unfold growG at h
    split at h
    · cases h
    · rename_i hi
      injection h with h
      rw [← h]
      obtain ⟨y, h1, -⟩ := isF_ok hi
      obtain ⟨-, hb, -⟩ := of_ok h1
      exact ⟨hi, hb, parts_refl hb.spans⟩
    · cases h
  | n + 1, b, c, h => by
    unfold growG at h
    split at h
    · cases h
    · rename_i x hx
      obtain ⟨hs, hb, hl, hn⟩ := of_ok hx
      split at h
      · rename_i hin
        injection h with h
        rw [← h]
        refine ⟨?_, hb, parts_refl hb.spans⟩
        unfold isF
        rw [hx]
        dsimp only
        rw [hin]
      · split at h
        · cases h
        · rename_i d hd
          obtain ⟨k1, k2, k3⟩ := growG_ok h0 n d c h
          have hx2 := next_bx hs hb hn
          have hh := parts_hull (hl.trans hx2.2.symm) (fun s hs => (hb.spans s hs).2.2) (fun s hs => (hx2.1.spans s hs).2.2)
          have hd2 := wider_part h0 _ d (by
            have := (hull_parts hh.1 hh.2).lo
            exact this) hd
          exact ⟨k1, hb, (hh.1.trans hd2).trans k3⟩
theorem withinF_of {a b : List Sp} (ha : Bx a) (hb : Bx b) (h : Parts a b) : withinF a b = .ok true := by
  unfold withinF btwoF
  rw [ha.check]
  dsimp only
  rw [hb.check]
  dsimp only
  rw [if_pos h.len]
  simp only [orErr]
  rw [h.inF]
/-- What holds: its next box is within it, and it is right. -/
theorem is_parts {s : Sy} {c : List Sp} (h : isF s c = .ok true) : Good s ∧ Bx c ∧ c.length = s.next.length ∧ ycheckF s = none ∧ ∃ y, nextF s c = .ok y ∧ Parts y c := by
  obtain ⟨y, h1, h2⟩ := isF_ok h
  obtain ⟨hs, hb, hl, hn⟩ := of_ok h1
  have hy := next_bx hs hb hn
  have hck : ycheckF s = none := by
    obtain ⟨k1, -⟩ := orErr_parts h1
    unfold readyF at k1
    split at k1
    · cases k1
    · assumption
  exact ⟨hs, hb, hl, hck, y, hn, inF_parts y c (hy.2.trans hl.symm) (fun s hs => (hy.1.spans s hs).2.2) h2.symm⟩
theorem ready_of {s : Sy} {b : List Sp} (hc : ycheckF s = none) (hb : Bx b) (hl : b.length = s.next.length) : readyF s b = none := by
  unfold readyF
  rw [hc]
  dsimp only
  rw [hb.check]
  dsimp only
  rw [if_pos hl]
-- where nothing changes
def none_ : Sy := ⟨[[⟨1000, 1, 0, 0⟩]], [⟨0, 0⟩]⟩
theorem none_good : Good none_ := ⟨by decide, by decide, rfl, rfl, fun p hp => by
  rw [List.mem_singleton.1 hp]
  exact ⟨⟨by decide, by decide⟩, ⟨by decide, by decide⟩, by decide⟩⟩
theorem one_cube (n : Int) : n * 1000 * 1000000 = n * 1000000000 := by omega
theorem none_point {n : Int} (h : Sm n) : ypointF none_ [n] [0] = .ok [n] := by
  have h0 : Sm 1000 := by unfold Sm; omega
  have hM : M n := by unfold Sm at h; unfold M; omega
  have e1 : exactF ⟨1000, 1, 0, 0⟩ [n] = n * 1000000000 := by
    show (1000 * n ^ 1) * 1000 ^ 2 = _
    rw [Int.pow_succ, Int.pow_zero, Int.one_mul]
    have : (1000 : Int) ^ 2 = 1000000 := by decide
    rw [this, Int.mul_comm 1000 n]
    omega
  have e2 : pointF [⟨1000, 1, 0, 0⟩] [n] = .ok n := by
    unfold pointF
    have e3 : pointG [n] 0 [⟨1000, 1, 0, 0⟩] = .ok (n * 1000000000) := by
      unfold pointG
      rw [if_pos h0, e1, Int.zero_add]
      rfl
    rw [e3]
    have e4 : dn (n * 1000000000) 1000000000 = n := by unfold dn; omega
    dsimp only
    rw [e4, if_pos hM]
  unfold ypointF
  have e5 : ycheckF none_ = none := rfl
  rw [e5]
  simp only [orErr]
  rw [if_neg (by simp [none_]), if_neg (by simp [none_, hasG])]
  have e6 : numbersF [n] = none := by unfold numbersF; rw [if_pos (by simpa using h)]
  rw [e6]
  simp only [orErr]
  show moveG [n] [[⟨1000, 1, 0, 0⟩]] [0] = _
  unfold moveG
  rw [e2]
  dsimp only
  rw [Int.add_zero, if_pos hM]
  rfl
theorem none_far {n : Int} (h : ¬ Sm n) : ypointF none_ [n] [0] = .error 1 := by
  unfold ypointF
  have e5 : ycheckF none_ = none := rfl
  rw [e5]
  simp only [orErr]
  rw [if_neg (by simp [none_]), if_neg (by simp [none_, hasG])]
  have e6 : numbersF [n] = some 1 := by unfold numbersF; rw [if_neg (by simpa using h)]
  rw [e6]
theorem raised_one {a : Sp} (h : Rt a) : raisedF a 1 = .ok a := by
  obtain ⟨h1, h2, h3⟩ := h
  have ha : ∀ n : Int, M n → againF n 1 = .ok (n, n) := fun n hn => by
    have e1 : pup 1000 n = n := by unfold pup up; omega
    have e2 : pdn 1000 n = n := by unfold pdn dn; omega
    show (if M (pup 1000 n) then _ else _) = _
    rw [e1, if_pos hn, e2]
  have hs : ∀ n : Int, M n → signedF n 1 = .ok (n, n) := fun n hn => by
    unfold signedF
    by_cases h0 : 0 ≤ n
    · rw [if_pos h0, ha n hn]
    · rw [if_neg h0, ha (-n) (by unfold M at *; omega)]
      dsimp only
      rw [Int.neg_neg]
  unfold raisedF raisedG
  rw [if_neg (by decide)]
  dsimp only
  rw [hs _ h1]
  dsimp only
  rw [hs _ h2]
theorem prod_one {a : Sp} (h : Rt a) : prodF ⟨1000, 1000⟩ a = .ok a := by
  obtain ⟨h1, h2, h3⟩ := h
  have e1 : ∀ n, pup 1000 n = n := fun n => by unfold pup up; omega
  have e2 : ∀ n, pdn 1000 n = n := fun n => by unfold pdn dn; omega
  unfold prodF cornersF
  simp only [e1, e2, min4, max4]
  have e3 : min (min (min a.lo a.hi) a.lo) a.hi = a.lo := by omega
  have e4 : max (max (max a.lo a.hi) a.lo) a.hi = a.hi := by omega
  rw [e3, e4]
  unfold fitsF
  rw [if_pos ⟨h1, h2⟩]
theorem sum_nought {a b : Sp} (h : Rt a) (hb : b = ⟨0, 0⟩) : sumF b a = .ok a ∧ sumF a b = .ok a := by
  obtain ⟨h1, h2, h3⟩ := h
  subst hb
  unfold sumF fitsF
  simp only [Int.zero_add, Int.add_zero]
  exact ⟨if_pos ⟨h1, h2⟩, if_pos ⟨h1, h2⟩⟩
theorem none_next {a : Sp} (h : Rt a) : nextF none_ [a] = .ok [a] := by
  have e1 : oneF ⟨1000, 1, 0, 0⟩ [a] = .ok a := by
    unfold oneF oneG
    have : (Tm.time ⟨1000, 1, 0, 0⟩ 0).toNat = 1 := rfl
    rw [this, raised_one h]
    dsimp only
    rw [prod_one h]
    rfl
  have e2 : foverF [⟨1000, 1, 0, 0⟩] [a] = .ok a := by
    unfold foverF foverG
    rw [e1]
    dsimp only
    rw [(sum_nought h rfl).1]
    rfl
  show nextG [a] [[⟨1000, 1, 0, 0⟩]] [⟨0, 0⟩] = _
  unfold nextG
  rw [e2]
  dsimp only
  rw [(sum_nought h rfl).2]
  rfl
theorem none_bx {a : Sp} (h : Rt a) : Bx [a] := ⟨by simp, by simp, fun p hp => by rw [List.mem_singleton.1 hp]; exact h⟩
theorem none_ready {a : Sp} (h : Rt a) : readyF none_ [a] = none := ready_of rfl (none_bx h) rfl
theorem bcheck_one {a : Sp} : bcheckF [a] = checkF a := by
  unfold bcheckF
  rw [if_neg (by simp), if_neg (by simp)]
  unfold firstBad
  cases checkF a <;> rfl
theorem none_bad {a : Sp} {e : Nat} (h : checkF a = some e) : readyF none_ [a] = some e := by
  unfold readyF
  have : ycheckF none_ = none := rfl
  rw [this]
  dsimp only
  rw [bcheck_one, h]
theorem none_of {a : Sp} : ofF none_ [a] = match checkF a with | some e => .error e | none => .ok [a] := by
  unfold ofF
  cases h : checkF a with
  | some e => rw [none_bad h]; rfl
  | none =>
    have hr := checkF_none.1 h
    rw [none_ready hr]
    exact none_next hr
theorem in_self : ∀ (b : List Sp), inF b b = true
  | [] => rfl
  | s :: b => by
    unfold inF
    rw [if_neg (by omega)]
    exact in_self b
theorem none_is {a : Sp} (h : Rt a) : isF none_ [a] = .ok true := by
  unfold isF
  rw [none_of, checkF_none.2 h]
  dsimp only
  rw [in_self]
theorem none_grow {a : Sp} (h : Rt a) {by_ : Int} (h0 : 0 ≤ by_) (h1 : by_ ≤ 1000000000) : growF none_ [a] by_ 3 = .ok [a] := by
  unfold growF
  rw [if_neg (by omega)]
  show growG none_ by_ 3 [a] = _
  unfold growG
  rw [none_of, checkF_none.2 h]
  dsimp only
  rw [if_pos (in_self _)]
theorem none_grow_bad {a : Sp} {by_ : Int} (h : by_ < 0 ∨ 1000000000 < by_) : growF none_ [a] by_ 3 = .error 1 := by
  unfold growF
  rw [if_pos (by omega)]
theorem none_bound {a : Sp} (h : Rt a) : boundF none_ [a] = .ok 1000 := by
  unfold boundF
  rw [none_ready h]
  show boundG [a] 0 [[⟨1000, 1, 0, 0⟩]] = _
  have e1 : nsteepG 0 [⟨1000, 1, 0, 0⟩] = .ok [⟨1000, 0, 0, 0⟩] := rfl
  have e2 : foverF [⟨1000, 0, 0, 0⟩] [a] = .ok ⟨1000, 1000⟩ := by
    have r0 : raisedF a 0 = .ok ⟨1000, 1000⟩ := by
      unfold raisedF raisedG signedF
      have : ∀ n, againF n 0 = .ok (1000, 1000) := fun _ => rfl
      simp only [this]
      have hb := h.2.2
      unfold apartF
      have k1 : (0 : Int) ≤ (if zeroF a then 0 else max a.lo (-a.hi)) := by
        split
        · omega
        · rename_i hz
          simp [zeroF] at hz
          omega
      have k2 : (0 : Int) ≤ max a.hi (-a.lo) := by omega
      simp [k1, k2]
    unfold foverF foverG oneF oneG
    have : (Tm.time ⟨1000, 0, 0, 0⟩ 0).toNat = 0 := rfl
    rw [this, r0]
    rfl
  unfold boundG
  have e3 : boneG [⟨1000, 1, 0, 0⟩] [a] 0 [a].length 0 = .ok 1000 := by
    show boneG [⟨1000, 1, 0, 0⟩] [a] 0 1 0 = _
    unfold boneG
    rw [e1]
    dsimp only
    rw [e2]
    rfl
  rw [e3]
  rfl
theorem none_bound_bad {a : Sp} {e : Nat} (h : checkF a = some e) : boundF none_ [a] = .error e := by
  unfold boundF
  rw [none_bad h]
  rfl
end Go.Proofs.Ytmnbgcbiaapldaa
