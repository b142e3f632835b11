/- Plain laws, no program in sight: what the statements on systems ask for, each from what the functions compute. -/
import Derived.Test.YtmnbgcbiaapldaaHasj
set_option linter.unusedVariables false
set_option linter.unusedSimpArgs false
namespace Go.Proofs.Ytmnbgcbiaapldaa

theorem step_law {s : Sy} {b y : List Sp} {x q z : List Int} (h1 : ofF s b = .ok y) (h2 : hasF b x = .ok true) (h3 : ypointF s x q = .ok z) : hasF y z = .ok true := by
  obtain ⟨hs, hb, hl, hn⟩ := of_ok h1
  obtain ⟨-, -, hv⟩ := hasF_ok h2
  exact hasF_in (next_bx hs hb hn).1 (step_in (hv.1 rfl) hn h3)
theorem run_parts {s : Sy} {b : List Sp} {n : Int} {l : List (List Sp)} (h : runF s b n = .ok l) : 0 ≤ n ∧ n ≤ 20 ∧ readyF s b = none ∧ runG s n.toNat b = .ok l := by
  unfold runF at h
  split at h
  · cases h
  · obtain ⟨h1, h2⟩ := orErr_parts h
    exact ⟨by omega, by omega, h1, h2⟩
theorem path_parts {s : Sy} {x : List Int} {push : List (List Int)} {p : List (List Int)} (h : pathF s x push = .ok p) : push.length ≤ 20 ∧ ycheckF s = none ∧ x.length = s.next.length ∧ pathG s push x = .ok p := by
  unfold pathF at h
  split at h
  · cases h
  · obtain ⟨h1, h2⟩ := orErr_parts h
    split at h2
    · cases h2
    · exact ⟨by omega, h1, by omega, h2⟩
theorem mem_getD {α : Type} {l : List (List α)} {i : Nat} (h : i < l.length) : l[i]?.getD [] ∈ l := by
  rw [List.getElem?_eq_getElem h]
  exact List.getElem_mem h
theorem flow_law {s : Sy} {b : List Sp} {x : List Int} {push : List (List Int)} {l : List (List Sp)} {p : List (List Int)} (h1 : runF s b push.length = .ok l) (h2 : hasF b x = .ok true) (h3 : pathF s x push = .ok p) :
    p.length = l.length ∧ ∀ i, i < p.length → hasF (l[i]?.getD []) (p[i]?.getD []) = .ok true := by
  obtain ⟨-, -, k1, k2⟩ := run_parts h1
  obtain ⟨-, -, -, k3⟩ := path_parts h3
  obtain ⟨hs, hb, hl⟩ := ready_good k1
  obtain ⟨-, -, hv⟩ := hasF_ok h2
  have e : ((push.length : Int)).toNat = push.length := by simp
  rw [e] at k2
  have hp := path_len push x p k3
  have hr := run_len _ b l k2
  have ha := path_in push b x l p (hv.1 rfl) k2 k3
  refine ⟨by omega, fun i hi => ?_⟩
  have hil : i < l.length := by omega
  exact hasF_in (run_bx hs _ b l hb hl k2 _ (mem_getD hil)).1 (ha.at i hil)
theorem bcom_self : ∀ (b : List Sp), (∀ s ∈ b, s.lo ≤ s.hi) → ∃ m, bcomF b b = .ok m
  | [], _ => ⟨[], rfl⟩
  | s :: b, h => by
    obtain ⟨m, hm⟩ := bcom_self b (fun t ht => h t (by simp [ht]))
    have h0 := h s (by simp)
    refine ⟨⟨max s.lo s.lo, min s.hi s.hi⟩ :: m, ?_⟩
    unfold bcomF comF
    rw [if_neg (by omega)]
    dsimp only
    rw [hm]
theorem first_self {s : Sy} {b : List Sp} {steps i : Int} (h : firstF s b b steps = .ok i) : i = 0 := by
  unfold firstF at h
  obtain ⟨h1, h2⟩ := orErr_parts h
  split at h2
  · cases h2
  · rename_i l hl
    rw [if_pos rfl] at h2
    injection h2 with h2
    obtain ⟨-, -, -, k⟩ := run_parts hl
    obtain ⟨t, rfl⟩ := run_head _ b l k
    obtain ⟨m, hm⟩ := bcom_self b (fun s hs => ((bcheck_bx h1).spans s hs).2.2)
    unfold firstG at h2
    rw [hm] at h2
    exact h2.symm
theorem safe_self (s : Sy) (b : List Sp) (steps : Int) : (∃ e, firstF s b b steps = .error e ∧ whenF s b b steps = .error e ∧ clearF s b b steps = .error e) ∨ (whenF s b b steps = .ok 0 ∧ clearF s b b steps = .ok false) := by
  cases h : firstF s b b steps with
  | error e => exact .inl ⟨e, rfl, by unfold whenF; rw [h], by unfold clearF; rw [h]⟩
  | ok i =>
    have := first_self h
    subst this
    refine .inr ⟨?_, ?_⟩
    · unfold whenF; rw [h]; rfl
    · unfold clearF; rw [h]; rfl
theorem run_none {s : Sy} {b : List Sp} {l : List (List Sp)} (h : runF s b 0 = .ok l) : l = [b] ∧ Bx b ∧ wideF s b 0 = .ok [wideF1 b] ∧ 0 ≤ wideF1 b := by
  obtain ⟨-, -, k1, k2⟩ := run_parts h
  obtain ⟨hs, hb, hl⟩ := ready_good k1
  have e : l = [b] := by
    have : runG s 0 b = .ok l := k2
    unfold runG at this
    injection this with this
    exact this.symm
  refine ⟨e, hb, ?_, ?_⟩
  · unfold wideF
    rw [h, e]
    rfl
  · unfold wideF1 widthF
    have := (hb.spans _ (mem_at (widestF_lt hb.pos))).2.2
    unfold sAt at this
    omega
theorem hold_law {s : Sy} {b c : List Sp} {by_ : Int} {x : List Int} {push : List (List Int)} (h : growF s b by_ 20 = .ok c) : isF s c = .ok true ∧ withinF b c = .ok true ∧ Bx c ∧
    (∃ l, runF s c 6 = .ok l ∧ l.length = 7 ∧ (∀ i, i < 7 → Bx (l[i]?.getD [])) ∧ ∀ i, i + 1 < 7 → withinF (l[i + 1]?.getD []) (l[i]?.getD []) = .ok true) ∧
    ∀ p, pathF s x push = .ok p → hasF c x = .ok true → ∀ i, i < p.length → hasF c (p[i]?.getD []) = .ok true := by
  unfold growF at h
  split at h
  · cases h
  · obtain ⟨h1, hb, hp⟩ := growG_ok (by omega) _ b c h
    obtain ⟨hs, hc, hl, hck, y, hn, hy⟩ := is_parts h1
    refine ⟨h1, withinF_of hb hc hp, hc, ?_, fun p h3 h2 i hi => ?_⟩
    · obtain ⟨l, k1, k2⟩ := holds_run hs 6 c y hn hy
      have hll := run_len 6 c l k1
      have hbx := run_bx hs 6 c l hc hl k1
      refine ⟨l, ?_, by omega, fun i hi => (hbx _ (mem_getD (by omega))).1, fun i hi => ?_⟩
      · unfold runF
        rw [if_neg (by omega), ready_of hck hc hl]
        exact k1
      · exact withinF_of (hbx _ (mem_getD (by omega))).1 (hbx _ (mem_getD (by omega))).1 (k2.at i (by omega))
    · obtain ⟨-, -, hv⟩ := hasF_ok h2
      obtain ⟨-, -, -, k3⟩ := path_parts h3
      exact hasF_in hc (holds_path hn hy push x p (hv.1 rfl) k3 _ (mem_getD hi))
theorem within_parts {a b : List Sp} (h : withinF a b = .ok true) : Bx a ∧ Bx b ∧ Parts a b := by
  unfold withinF at h
  obtain ⟨k1, k2⟩ := orErr_parts h
  injection k2 with k2
  unfold btwoF at k1
  split at k1
  · cases k1
  · rename_i ha
    split at k1
    · cases k1
    · rename_i hb
      split at k1
      · rename_i hl
        exact ⟨bcheck_bx ha, bcheck_bx hb, inF_parts a b hl (fun s hs => ((bcheck_bx ha).spans s hs).2.2) k2⟩
      · cases k1
/-- In pieces: the law of cover.Step. -/
theorem cover_law {s : Sy} {b y : List Sp} {depth : Int} (h : ofF s b = .ok y) : ((depth < 0 ∨ 5 < depth) ∧ coverF s b depth = .error 1) ∨
    (∃ z, coverF s b depth = .ok z ∧ withinF z y = .ok true ∧ ∀ x q u, hasF b x = .ok true → ypointF s x q = .ok u → hasF z u = .ok true) := by
  obtain ⟨hs, hb, hl, hn⟩ := of_ok h
  have hck : ycheckF s = none := by
    obtain ⟨k1, -⟩ := orErr_parts h
    unfold readyF at k1
    split at k1
    · cases k1
    · assumption
  by_cases hd : depth < 0 ∨ 5 < depth
  · refine .inl ⟨hd, ?_⟩
    unfold coverF cpiecesF
    rw [hck]
    simp only [orErr]
    rw [hb.check]
    simp only [orErr]
    rw [if_pos hd]
  · obtain ⟨z, k1, k2, k3⟩ := cover_ok (depth := depth) hck hb hl (parts_refl hb.spans) hn (by omega) (by omega)
    have hy := next_bx hs hb hn
    have hz : Bx z := by
      have h1 := k2.len
      refine ⟨by have := hy.1.pos; omega, by have := hy.1.few; omega, fun p hp => ?_⟩
      obtain ⟨i, hi, rfl⟩ := List.getElem_of_mem hp
      have e1 := (parts_iff.1 k2).2 i hi
      have e2 := hy.1.spans _ (mem_at (show i < y.length by omega))
      have e3 : sAt z i = z[i] := by unfold sAt; rw [List.getElem?_eq_getElem hi]; rfl
      rw [e3] at e1
      obtain ⟨⟨a1, a2⟩, ⟨a3, a4⟩, a5⟩ := e2
      obtain ⟨c1, c2, c3⟩ := e1
      exact ⟨⟨by omega, by omega⟩, ⟨by omega, by omega⟩, c1⟩
    refine .inr ⟨z, k1, withinF_of hz hy.1 k2, fun x q u h1 h2 => ?_⟩
    obtain ⟨-, -, hv⟩ := hasF_ok h1
    exact hasF_in hz (k3 x q u (hv.1 rfl) h2)
theorem path_step {s : Sy} : ∀ (push : List (List Int)) (x : List Int) (p : List (List Int)), pathG s push x = .ok p → (∃ t, p = x :: t) ∧ ∀ i, i + 1 < p.length → ypointF s (p[i]?.getD []) (push[i]?.getD []) = .ok (p[i + 1]?.getD [])
  | [], x, p, h => by
    unfold pathG at h
    injection h with h
    subst h
    exact ⟨⟨[], rfl⟩, fun i hi => by simp at hi⟩
  | q :: push, x, p, h => by
    unfold pathG at h
    split at h
    · cases h
    · rename_i y hy
      split at h
      · cases h
      · rename_i r hr
        injection h with h
        subst h
        obtain ⟨⟨t, rfl⟩, ih⟩ := path_step push y r hr
        refine ⟨⟨_, rfl⟩, fun i hi => ?_⟩
        match i, hi with
        | 0, _ => exact hy
        | i + 1, hi => simpa using ih i (by simpa using hi)
/-- What pulls together: it holds, and two paths with the same pushes stay in it, and come no further apart than the bound says. -/
theorem pull_law {s : Sy} {b : List Sp} {n : Int} (h : pullF s b = .ok true) (hn : boundF s b = .ok n) : isF s b = .ok true ∧ n < 1000 ∧
    ∀ x y push p q, pathF s x push = .ok p → pathF s y push = .ok q → hasF b x = .ok true → hasF b y = .ok true → p.length = q.length ∧ (∀ i, i < p.length → hasF b (p[i]?.getD []) = .ok true ∧ hasF b (q[i]?.getD []) = .ok true) ∧
      ∀ i, i + 1 < p.length → ∀ far, 0 ≤ far → (∀ k, k < b.length → ((nAt (p[i]?.getD []) k - nAt (q[i]?.getD []) k).natAbs : Int) ≤ far) → ∀ k, k < b.length → ((nAt (p[i + 1]?.getD []) k - nAt (q[i + 1]?.getD []) k).natAbs : Int) * 1000 ≤ n * far + 1000 := by
  unfold pullF at h
  rw [hn] at h
  dsimp only at h
  split at h
  · cases h
  · rename_i v hv
    injection h with h
    simp at h
    obtain ⟨rfl, hn1⟩ := h
    obtain ⟨hs, hb, hl, hck, z, hz, hzp⟩ := is_parts hv
    refine ⟨hv, hn1, fun x y push p q hp hq hx hy => ?_⟩
    obtain ⟨-, -, -, p1⟩ := path_parts hp
    obtain ⟨-, -, -, q1⟩ := path_parts hq
    obtain ⟨-, -, ix⟩ := hasF_ok hx
    obtain ⟨-, -, iy⟩ := hasF_ok hy
    have lp := path_len push x p p1
    have lq := path_len push y q q1
    have inp := holds_path hz hzp push x p (ix.1 rfl) p1
    have inq := holds_path hz hzp push y q (iy.1 rfl) q1
    refine ⟨by omega, fun i hi => ⟨hasF_in hb (inp _ (mem_getD hi)), hasF_in hb (inq _ (mem_getD (by omega)))⟩, fun i hi far h0 hf k hk => ?_⟩
    have s1 := (path_step push x p p1).2 i hi
    have s2 := (path_step push y q q1).2 i (by omega)
    have i1 := inp _ (mem_getD (show i < p.length by omega))
    have i2 := inq _ (mem_getD (show i < q.length by omega))
    have i3 := inp _ (mem_getD hi)
    exact (near_law hn i1 i2 s1 s2 (fun k hk => hf k (by rw [← i1.len]; exact hk)) h0).2 k (by rw [i3.len]; exact hk)
/-- What is clear is never met. -/
theorem clear_law {s : Sy} {b bad : List Sp} {n : Nat} {l : List (List Sp)} (h : clearF s b bad n = .ok true) (hl : runF s b n = .ok l) : ∀ i, i < l.length → ∃ e, bcomF (l[i]?.getD []) bad = .error e := by
  unfold clearF firstF at h
  split at h
  · cases h
  · rename_i r hr
    injection h with h
    obtain ⟨-, h2⟩ := orErr_parts hr
    rw [hl] at h2
    dsimp only at h2
    split at h2
    · injection h2 with h2
      have hg : ∀ (l : List (List Sp)) (k : Nat), firstG bad k l < 0 → ∀ i, i < l.length → ∃ e, bcomF (l[i]?.getD []) bad = .error e := by
        intro l
        induction l with
        | nil => intro k _ i hi; simp at hi
        | cons c l ih =>
          intro k hk i hi
          unfold firstG at hk
          split at hk
          · omega
          · rename_i e he
            match i, hi with
            | 0, _ => exact ⟨e, by simpa using he⟩
            | i + 1, hi => simpa using ih (k + 1) hk i (by simpa using hi)
      exact hg l 0 (by rw [h2]; simpa using h)
    · cases h2
theorem clear_ok {s : Sy} {b bad : List Sp} {n : Int} {v : Bool} (h : clearF s b bad n = .ok v) : Bx bad ∧ bad.length = b.length := by
  unfold clearF at h
  split at h
  · cases h
  · rename_i r hr
    unfold firstF at hr
    obtain ⟨h1, h2⟩ := orErr_parts hr
    split at h2
    · cases h2
    · split at h2
      · exact ⟨bcheck_bx h1, by assumption⟩
      · cases h2
end Go.Proofs.Ytmnbgcbiaapldaa
