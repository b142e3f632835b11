/- Plain laws, no program in sight: systems, step by step: behind each point of a box is a point of the next box; a smaller box has a smaller next box; tubes; pieces; what holds. -/
import Derived.Test.YtmnbgcbiaapldaaHasf
set_option linter.unusedVariables false
set_option linter.unusedSimpArgs false
namespace Go.Proofs.Ytmnbgcbiaapldaa

theorem sumF_parts {u p v : Sp} (h : sumF u p = .ok v) : v.lo = u.lo + p.lo ∧ v.hi = u.hi + p.hi := by
  unfold sumF at h
  obtain ⟨e, -, -⟩ := fits_ok h
  rw [e]
  exact ⟨rfl, rfl⟩
theorem move_in {k : Int} {b : List Sp} {x : List Int} (hin : Inside b x) (h3 : x.length ≤ 3) : ∀ (fs : List (List Tm)) (ps y : List Sp) (qs z : List Int), firstBadF k fs = none → Inside ps qs → nextG b fs ps = .ok y → moveG x fs qs = .ok z → Inside y z
  | [], ps, y, qs, z, _, _, h1, h2 => by
    unfold nextG at h1
    unfold moveG at h2
    injection h1 with h1
    injection h2 with h2
    subst h1; subst h2
    trivial
  | f :: fs, [], y, [], z, _, _, h1, h2 => by
    unfold nextG at h1
    unfold moveG at h2
    injection h1 with h1
    injection h2 with h2
    subst h1; subst h2
    trivial
  | f :: fs, p :: ps, y, q :: qs, z, hb, hp, h1, h2 => by
    obtain ⟨p1, p2, p3⟩ := hp
    unfold firstBadF at hb
    split at hb
    · cases hb
    · rename_i hc
      unfold nextG at h1
      cases e1 : foverF f b with
      | error e => rw [e1] at h1; cases h1
      | ok u =>
        rw [e1] at h1
        dsimp only at h1
        cases e2 : sumF u p with
        | error e => rw [e2] at h1; cases h1
        | ok v =>
          rw [e2] at h1
          dsimp only at h1
          cases e3 : nextG b fs ps with
          | error e => rw [e3] at h1; cases h1
          | ok y' =>
            rw [e3] at h1
            injection h1 with h1
            unfold moveG at h2
            cases e4 : pointF f x with
            | error e => rw [e4] at h2; cases h2
            | ok n =>
              rw [e4] at h2
              dsimp only at h2
              split at h2
              · cases e5 : moveG x fs qs with
                | error e => rw [e5] at h2; cases h2
                | ok z' =>
                  rw [e5] at h2
                  injection h2 with h2
                  subst h1; subst h2
                  obtain ⟨n1, n2⟩ := point_has hc hin h3 e1 e4
                  obtain ⟨v1, v2⟩ := sumF_parts e2
                  exact ⟨by omega, by omega, move_in hin h3 fs ps y' qs z' hb p3 e3 e5⟩
              · cases h2
  | _ :: _, [], _, _ :: _, _, _, h, _, _ => h.elim
  | _ :: _, _ :: _, _, [], _, _, h, _, _ => h.elim
theorem next_iso {c b : List Sp} (hp : Parts c b) : ∀ (fs : List (List Tm)) (ps y' : List Sp), (∀ p ∈ ps, p.lo ≤ p.hi) → nextG b fs ps = .ok y' → ∃ y, nextG c fs ps = .ok y ∧ Parts y y'
  | [], ps, y', _, h => by
    unfold nextG at h
    injection h with h
    subst h
    refine ⟨[], ?_, trivial⟩
    unfold nextG
    rfl
  | f :: fs, [], y', _, h => by
    unfold nextG at h
    injection h with h
    subst h
    refine ⟨[], ?_, trivial⟩
    unfold nextG
    rfl
  | f :: fs, p :: ps, y', hps, h => by
    unfold nextG at h
    cases e1 : foverF f b with
    | error e => rw [e1] at h; cases h
    | ok u' =>
      rw [e1] at h
      dsimp only at h
      cases e2 : sumF u' p with
      | error e => rw [e2] at h; cases h
      | ok v' =>
        rw [e2] at h
        dsimp only at h
        cases e3 : nextG b fs ps with
        | error e => rw [e3] at h; cases h
        | ok y2 =>
          rw [e3] at h
          injection h with h
          subst h
          obtain ⟨u, k1, k2, k3⟩ := fover_iso hp e1
          obtain ⟨v, m1, m2, m3⟩ := sum_iso k3 (hps p (by simp)) k2 (Sub.refl p) e2
          obtain ⟨y, r1, r2⟩ := next_iso hp fs ps y2 (fun q hq => hps q (by simp [hq])) e3
          refine ⟨v :: y, ?_, m3, m2, r2⟩
          unfold nextG
          rw [k1]
          dsimp only
          rw [m1]
          dsimp only
          rw [r1]
theorem nextG_len {b : List Sp} : ∀ (fs : List (List Tm)) (ps y : List Sp), fs.length = ps.length → nextG b fs ps = .ok y → y.length = fs.length
  | [], ps, y, _, h => by
    unfold nextG at h
    injection h with h
    subst h
    rfl
  | f :: fs, [], y, hl, _ => by simp at hl
  | f :: fs, p :: ps, y, hl, h => by
    unfold nextG at h
    cases e1 : foverF f b with
    | error e => rw [e1] at h; cases h
    | ok u =>
      rw [e1] at h
      dsimp only at h
      cases e2 : sumF u p with
      | error e => rw [e2] at h; cases h
      | ok v =>
        rw [e2] at h
        dsimp only at h
        cases e3 : nextG b fs ps with
        | error e => rw [e3] at h; cases h
        | ok y' =>
          rw [e3] at h
          injection h with h
          subst h
          simp [nextG_len fs ps y' (by simpa using hl) e3]
/-- What a system that is right has. -/
structure Good (s : Sy) : Prop where
  pos : 0 < s.next.length
  few : s.next.length ≤ 3
  push : s.push.length = s.next.length
  forms : firstBadF s.next.length s.next = none
  spans : ∀ p ∈ s.push, Rt p
theorem firstBad_rt : ∀ {l : List Sp}, firstBad l = none → ∀ s ∈ l, Rt s
  | [], _, s, hs => by cases hs
  | t :: l, h, s, hs => by
    unfold firstBad at h
    split at h
    · cases h
    · rename_i ht
      rcases List.mem_cons.1 hs with e | e
      · rw [e]; exact checkF_none.1 ht
      · exact firstBad_rt h s e
theorem ycheck_good {s : Sy} (h : ycheckF s = none) : Good s := by
  unfold ycheckF at h
  split at h
  · cases h
  · split at h
    · cases h
    · split at h
      · cases h
      · split at h
        · cases h
        · rename_i h1 h2 h3 _ h4
          exact ⟨by omega, by omega, by simpa using h3, h4, firstBad_rt h⟩
/-- a right box -/
structure Bx (b : List Sp) : Prop where
  pos : 0 < b.length
  few : b.length ≤ 3
  spans : ∀ p ∈ b, Rt p
theorem bcheck_bx {b : List Sp} (h : bcheckF b = none) : Bx b := by
  unfold bcheckF at h
  split at h
  · cases h
  · split at h
    · cases h
    · exact ⟨by omega, by omega, firstBad_rt h⟩
theorem firstBad_of : ∀ {l : List Sp}, (∀ s ∈ l, Rt s) → firstBad l = none
  | [], _ => rfl
  | t :: l, h => by
    unfold firstBad
    rw [checkF_none.2 (h t (by simp))]
    exact firstBad_of (fun s hs => h s (by simp [hs]))
theorem Bx.check {b : List Sp} (h : Bx b) : bcheckF b = none := by
  unfold bcheckF
  have := h.pos
  have := h.few
  rw [if_neg (by omega), if_neg (by omega)]
  exact firstBad_of h.spans
theorem ready_good {s : Sy} {b : List Sp} (h : readyF s b = none) : Good s ∧ Bx b ∧ b.length = s.next.length := by
  unfold readyF at h
  split at h
  · cases h
  · split at h
    · cases h
    · split at h
      · exact ⟨ycheck_good (by assumption), bcheck_bx (by assumption), by assumption⟩
      · cases h
theorem orErr_parts {α : Type} {c : Option Nat} {r : Except Nat α} {s : α} (h : orErr c r = .ok s) : c = none ∧ r = .ok s := by
  cases c with
  | none => exact ⟨rfl, h⟩
  | some e => cases h
theorem hasF_ok {b : List Sp} {x : List Int} {v : Bool} (h : hasF b x = .ok v) : Bx b ∧ x.length = b.length ∧ (v = true ↔ Inside b x) := by
  unfold hasF at h
  split at h
  · cases h
  · rename_i hc
    split at h
    · rename_i hl
      injection h with h
      refine ⟨bcheck_bx hc, hl, ?_⟩
      rw [← h]
      exact hasG_inside b x hl
    · cases h
theorem hasF_in {b : List Sp} {x : List Int} (hb : Bx b) (h : Inside b x) : hasF b x = .ok true := by
  unfold hasF
  rw [hb.check]
  dsimp only
  rw [if_pos h.len, (hasG_inside b x h.len).2 h]
theorem hasF_all {b : List Sp} {x : List Int} (hb : Bx b) (hl : x.length = b.length) : ∃ v, hasF b x = .ok v := by
  unfold hasF
  rw [hb.check]
  dsimp only
  rw [if_pos hl]
  exact ⟨_, rfl⟩
theorem sum_rt {a b t : Sp} (ha : a.lo ≤ a.hi) (hb : b.lo ≤ b.hi) (h : sumF a b = .ok t) : Rt t := by
  unfold sumF at h
  obtain ⟨e, h1, h2⟩ := fits_ok h
  rw [e]
  exact ⟨h1, h2, by dsimp only; omega⟩
theorem parts_refl : ∀ {b : List Sp}, (∀ p ∈ b, Rt p) → Parts b b
  | [], _ => trivial
  | s :: b, h => ⟨(h s (by simp)).2.2, Sub.refl s, parts_refl (fun p hp => h p (by simp [hp]))⟩
theorem next_rt {b : List Sp} (hb : ∀ p ∈ b, Rt p) : ∀ (fs : List (List Tm)) (ps y : List Sp), (∀ p ∈ ps, Rt p) → nextG b fs ps = .ok y → ∀ p ∈ y, Rt p
  | [], ps, y, _, h => by
    unfold nextG at h
    injection h with h
    subst h
    intro p hp
    cases hp
  | f :: fs, [], y, _, h => by
    unfold nextG at h
    injection h with h
    subst h
    intro p hp
    cases hp
  | f :: fs, q :: ps, y, hps, h => by
    unfold nextG at h
    cases e1 : foverF f b with
    | error e => rw [e1] at h; cases h
    | ok u =>
      rw [e1] at h
      dsimp only at h
      cases e2 : sumF u q with
      | error e => rw [e2] at h; cases h
      | ok v =>
        rw [e2] at h
        dsimp only at h
        cases e3 : nextG b fs ps with
        | error e => rw [e3] at h; cases h
        | ok y' =>
          rw [e3] at h
          injection h with h
          subst h
          obtain ⟨u2, k1, -, k3⟩ := fover_iso (parts_refl hb) e1
          rw [e1] at k1
          injection k1 with k1
          subst k1
          intro p hp
          rcases List.mem_cons.1 hp with e | e
          · rw [e]; exact sum_rt k3 (hps q (by simp)).2.2 e2
          · exact next_rt hb fs ps y' (fun p hp => hps p (by simp [hp])) e3 p e
theorem next_bx {s : Sy} {b y : List Sp} (hs : Good s) (hb : Bx b) (h : nextF s b = .ok y) : Bx y ∧ y.length = s.next.length := by
  have hl := nextG_len s.next s.push y hs.push.symm h
  have := hs.pos
  have := hs.few
  exact ⟨⟨by omega, by omega, next_rt hb.spans s.next s.push y hs.spans h⟩, hl⟩
theorem next_part {s : Sy} {c b y' : List Sp} (hs : Good s) (hp : Parts c b) (h : nextF s b = .ok y') : ∃ y, nextF s c = .ok y ∧ Parts y y' :=
  next_iso hp s.next s.push y' (fun p hp => (hs.spans p hp).2.2) h
theorem point_ok {s : Sy} {x q z : List Int} (h : ypointF s x q = .ok z) : Good s ∧ x.length = s.next.length ∧ q.length = s.next.length ∧ Inside s.push q ∧ moveG x s.next q = .ok z := by
  unfold ypointF at h
  obtain ⟨h1, h2⟩ := orErr_parts h
  have hg := ycheck_good h1
  split at h2
  · cases h2
  · split at h2
    · cases h2
    · rename_i k1 k2
      obtain ⟨-, h4⟩ := orErr_parts h2
      have k3 : hasG s.push q = true := by cases e : hasG s.push q with
        | true => rfl
        | false => exact absurd e k2
      have k4 : x.length = s.next.length ∧ q.length = s.next.length := by omega
      exact ⟨hg, k4.1, k4.2, (hasG_inside s.push q (by rw [k4.2, hg.push])).1 k3, h4⟩
/-- No point falls out. -/
theorem step_in {s : Sy} {b y : List Sp} {x q z : List Int} (hin : Inside b x) (h1 : nextF s b = .ok y) (h2 : ypointF s x q = .ok z) : Inside y z := by
  obtain ⟨hg, hx, hq, hp, hm⟩ := point_ok h2
  have := hg.few
  exact move_in hin (by omega) s.next s.push y q z hg.forms hp h1 hm
theorem of_ok {s : Sy} {b y : List Sp} (h : ofF s b = .ok y) : Good s ∧ Bx b ∧ b.length = s.next.length ∧ nextF s b = .ok y := by
  unfold ofF at h
  obtain ⟨h1, h2⟩ := orErr_parts h
  obtain ⟨a, b', c⟩ := ready_good h1
  exact ⟨a, b', c, h2⟩
theorem move_len {x : List Int} : ∀ (fs : List (List Tm)) (qs z : List Int), fs.length = qs.length → moveG x fs qs = .ok z → z.length = fs.length
  | [], qs, z, _, h => by
    unfold moveG at h
    injection h with h
    subst h
    rfl
  | f :: fs, [], z, hl, _ => by simp at hl
  | f :: fs, q :: qs, z, hl, h => by
    unfold moveG at h
    cases e1 : pointF f x with
    | error e => rw [e1] at h; cases h
    | ok n =>
      rw [e1] at h
      dsimp only at h
      split at h
      · cases e3 : moveG x fs qs with
        | error e => rw [e3] at h; cases h
        | ok y' =>
          rw [e3] at h
          injection h with h
          subst h
          simp [move_len fs qs y' (by simpa using hl) e3]
      · cases h
/-- along a tube -/
def Along : List (List Sp) → List (List Int) → Prop
  | [], [] => True
  | b :: l, x :: p => Inside b x ∧ Along l p
  | [], _ :: _ => False
  | _ :: _, [] => False
theorem Along.at : ∀ {l : List (List Sp)} {p : List (List Int)}, Along l p → ∀ i, i < l.length → Inside (l[i]?.getD []) (p[i]?.getD [])
  | [], _, _, i, hi => by simp at hi
  | b :: l, x :: p, h, 0, _ => by simpa using h.1
  | b :: l, x :: p, h, i + 1, hi => by simpa using Along.at h.2 i (by simpa using hi)
  | _ :: _, [], h, _, _ => h.elim
theorem path_in {s : Sy} : ∀ (push : List (List Int)) (b : List Sp) (x : List Int) (l : List (List Sp)) (p : List (List Int)), Inside b x → runG s push.length b = .ok l → pathG s push x = .ok p → Along l p
  | [], b, x, l, p, hin, h1, h2 => by
    unfold runG at h1
    unfold pathG at h2
    injection h1 with h1
    injection h2 with h2
    subst h1; subst h2
    exact ⟨hin, trivial⟩
  | q :: push, b, x, l, p, hin, h1, h2 => by
    rw [List.length_cons] at h1
    unfold runG at h1
    unfold pathG at h2
    cases e1 : nextF s b with
    | error e => rw [e1] at h1; cases h1
    | ok c =>
      rw [e1] at h1
      dsimp only at h1
      cases e2 : runG s push.length c with
      | error e => rw [e2] at h1; cases h1
      | ok l' =>
        rw [e2] at h1
        injection h1 with h1
        cases e3 : ypointF s x q with
        | error e => rw [e3] at h2; cases h2
        | ok y =>
          rw [e3] at h2
          dsimp only at h2
          cases e4 : pathG s push y with
          | error e => rw [e4] at h2; cases h2
          | ok p' =>
            rw [e4] at h2
            injection h2 with h2
            subst h1; subst h2
            exact ⟨hin, path_in push c y l' p' (step_in hin e1 e3) e2 e4⟩
theorem path_len {s : Sy} : ∀ (push : List (List Int)) (x : List Int) (p : List (List Int)), pathG s push x = .ok p → p.length = push.length + 1
  | [], x, p, h => by
    unfold pathG at h
    injection h with h
    subst h
    rfl
  | q :: push, x, p, h => by
    unfold pathG at h
    cases e3 : ypointF s x q with
    | error e => rw [e3] at h; cases h
    | ok y =>
      rw [e3] at h
      dsimp only at h
      cases e4 : pathG s push y with
      | error e => rw [e4] at h; cases h
      | ok p' =>
        rw [e4] at h
        injection h with h
        subst h
        simp [path_len push y p' e4]
theorem run_len {s : Sy} : ∀ (n : Nat) (b : List Sp) (l : List (List Sp)), runG s n b = .ok l → l.length = n + 1
  | 0, b, l, h => by
    unfold runG at h
    injection h with h
    subst h
    rfl
  | n + 1, b, l, h => by
    unfold runG at h
    cases e1 : nextF s b with
    | error e => rw [e1] at h; cases h
    | ok c =>
      rw [e1] at h
      dsimp only at h
      cases e2 : runG s n c with
      | error e => rw [e2] at h; cases h
      | ok l' =>
        rw [e2] at h
        injection h with h
        subst h
        simp [run_len n c l' e2]
theorem run_bx {s : Sy} (hs : Good s) : ∀ (n : Nat) (b : List Sp) (l : List (List Sp)), Bx b → b.length = s.next.length → runG s n b = .ok l → ∀ c ∈ l, Bx c ∧ c.length = s.next.length
  | 0, b, l, hb, hl, h, c, hc => by
    unfold runG at h
    injection h with h
    subst h
    simp at hc
    rw [hc]
    exact ⟨hb, hl⟩
  | n + 1, b, l, hb, hl, h, c, hc => by
    unfold runG at h
    cases e1 : nextF s b with
    | error e => rw [e1] at h; cases h
    | ok y =>
      rw [e1] at h
      dsimp only at h
      cases e2 : runG s n y with
      | error e => rw [e2] at h; cases h
      | ok l' =>
        rw [e2] at h
        injection h with h
        subst h
        obtain ⟨n1, n2⟩ := next_bx hs hb e1
        rcases List.mem_cons.1 hc with e | e
        · rw [e]; exact ⟨hb, hl⟩
        · exact run_bx hs n y l' n1 n2 e2 c e
/-- each box within the one ahead -/
def Falls : List (List Sp) → Prop
  | [] => True
  | [_] => True
  | b :: c :: l => Parts c b ∧ Falls (c :: l)
theorem Falls.at : ∀ {l : List (List Sp)}, Falls l → ∀ i, i + 1 < l.length → Parts (l[i + 1]?.getD []) (l[i]?.getD [])
  | [], _, i, hi => by simp at hi
  | [_], _, i, hi => by simp at hi
  | b :: c :: l, h, 0, _ => by simpa using h.1
  | b :: c :: l, h, i + 1, hi => by simpa using Falls.at h.2 i (by simpa using hi)
theorem run_head {s : Sy} : ∀ (n : Nat) (b : List Sp) (l : List (List Sp)), runG s n b = .ok l → ∃ t, l = b :: t
  | 0, b, l, h => by
    unfold runG at h
    injection h with h
    exact ⟨[], h.symm⟩
  | n + 1, b, l, h => by
    unfold runG at h
    cases e1 : nextF s b with
    | error e => rw [e1] at h; cases h
    | ok y =>
      rw [e1] at h
      dsimp only at h
      cases e2 : runG s n y with
      | error e => rw [e2] at h; cases h
      | ok l' =>
        rw [e2] at h
        injection h with h
        exact ⟨l', h.symm⟩
/-- What holds once holds for ever. -/
theorem holds_run {s : Sy} (hs : Good s) : ∀ (n : Nat) (b y : List Sp), nextF s b = .ok y → Parts y b → ∃ l, runG s n b = .ok l ∧ Falls l
  | 0, b, y, _, _ => ⟨[b], rfl, trivial⟩
  | n + 1, b, y, h, hp => by
    obtain ⟨z, h1, h2⟩ := next_part hs hp h
    obtain ⟨l, k1, k2⟩ := holds_run hs n y z h1 h2
    obtain ⟨t, rfl⟩ := run_head n y l k1
    refine ⟨b :: y :: t, ?_, hp, k2⟩
    unfold runG
    rw [h]
    dsimp only
    rw [k1]
theorem holds_path {s : Sy} {b y : List Sp} (h : nextF s b = .ok y) (hp : Parts y b) : ∀ (push : List (List Int)) (x : List Int) (p : List (List Int)), Inside b x → pathG s push x = .ok p → ∀ z ∈ p, Inside b z
  | [], x, p, hin, h2, z, hz => by
    unfold pathG at h2
    injection h2 with h2
    subst h2
    simp at hz
    rw [hz]
    exact hin
  | q :: push, x, p, hin, h2, z, hz => by
    unfold pathG at h2
    cases e3 : ypointF s x q with
    | error e => rw [e3] at h2; cases h2
    | ok y' =>
      rw [e3] at h2
      dsimp only at h2
      cases e4 : pathG s push y' with
      | error e => rw [e4] at h2; cases h2
      | ok p' =>
        rw [e4] at h2
        injection h2 with h2
        subst h2
        rcases List.mem_cons.1 hz with e | e
        · rw [e]; exact hin
        · exact holds_path h hp push y' p' (hp.inside (step_in hin h e3)) e4 z e
end Go.Proofs.Ytmnbgcbiaapldaa
