/- Plain laws, no program in sight: a tube in pieces. -/
import Derived.Test.YtmjcnpolnknkkaaGreatDoorHasl
import Derived.Test.YtmjcnpolnknkkaaGreatDoorHas
set_option linter.unusedVariables false
set_option linter.unusedSimpArgs false
namespace Go.Proofs.YtmjcnpolnknkkaaGreatDoor

theorem run_step {s : Sy} : ∀ (n : Nat) (b : List Sp) (l : List (List Sp)), runG s n b = .ok l → ∀ i, i + 1 < l.length → nextF s (l[i]?.getD []) = .ok (l[i + 1]?.getD [])
  | 0, b, l, h, i, hi => by
    unfold runG at h
    injection h with h
    subst h
    simp at hi
  | n + 1, b, l, h, i, hi => by
    unfold runG at h
    split at h
    · cases h
    · rename_i c hc
      split at h
      · cases h
      · rename_i l' hl
        injection h with h
        subst h
        obtain ⟨t, rfl⟩ := run_head n c l' hl
        match i, hi with
        | 0, _ => exact hc
        | i + 1, hi => simpa using run_step n c (c :: t) hl i (by simpa using hi)
theorem parts_bx {a b : List Sp} (h : Parts a b) (hb : Bx b) : Bx a := by
  have h1 := h.len
  refine ⟨by have := hb.pos; omega, by have := hb.few; omega, fun p hp => ?_⟩
  obtain ⟨i, hi, rfl⟩ := List.getElem_of_mem hp
  have e1 := (parts_iff.1 h).2 i hi
  have e2 := hb.spans _ (mem_at (show i < b.length by omega))
  have e3 : sAt a i = a[i] := by unfold sAt; rw [List.getElem?_eq_getElem hi]; rfl
  rw [e3] at e1
  obtain ⟨⟨a1, a2⟩, ⟨a3, a4⟩, a5⟩ := e2
  obtain ⟨c1, c2, c3⟩ := e1
  exact ⟨⟨by omega, by omega⟩, ⟨by omega, by omega⟩, c1⟩
/-- A step of a tube in pieces: it is told, within the tube's next box, and follows each path. -/
theorem tube_step {s : Sy} {b c : List Sp} {n : Int} {l : List (List Sp)} {k : Nat} {dp : Int} (hl : runF s b n = .ok l) (hk : k + 1 < l.length) (hc : Parts c (l[k]?.getD [])) (h0 : 0 ≤ dp) (h3 : dp ≤ 3) :
    ∃ z, coverF s c dp = .ok z ∧ Parts z (l[k + 1]?.getD []) ∧ withinF z (l[k + 1]?.getD []) = .ok true ∧ ∀ x q u, Inside c x → ypointF s x q = .ok u → Inside z u ∧ hasF z u = .ok true := by
  obtain ⟨-, -, k1, k2⟩ := run_parts hl
  obtain ⟨hs, hb, hlen⟩ := ready_good k1
  have hck : ycheckF s = none := by
    unfold readyF at k1
    split at k1
    · cases k1
    · assumption
  have hbx := run_bx hs _ b l hb hlen k2
  have hn := run_step _ b l k2 k hk
  have b1 := hbx _ (mem_getD (show k < l.length by omega))
  have b2 := hbx _ (mem_getD hk)
  have hcx := parts_bx hc b1.1
  obtain ⟨z, m1, m2, m3⟩ := cover_ok (depth := dp) hck hcx (hc.len.trans b1.2) hc hn h0 (by omega)
  have hzx := parts_bx m2 b2.1
  exact ⟨z, m1, m2, withinF_of hzx b2.1 m2, fun x q u hx hu => ⟨m3 x q u hx hu, hasF_in hzx (m3 x q u hx hu)⟩⟩
/-- A path's point and what is never met. -/
theorem tube_bad {s : Sy} {b bad : List Sp} {x : List Int} {push p : List (List Int)} {l : List (List Sp)} {v : Bool} {k : Nat} (hl : runF s b push.length = .ok l) (hp : pathF s x push = .ok p) (hx : hasF b x = .ok true) (hc : clearF s b bad push.length = .ok v) (hk : k < p.length) :
    ∃ t, hasF bad (p[k]?.getD []) = .ok t ∧ (v = true → t = false) := by
  obtain ⟨h1, h2⟩ := flow_law hl hx hp
  have h3 := h2 k hk
  obtain ⟨hb1, hl1, hv1⟩ := hasF_ok h3
  obtain ⟨-, -, k1, k2⟩ := run_parts hl
  obtain ⟨hs, hb, hlen⟩ := ready_good k1
  have hbx := run_bx hs _ b l hb hlen k2 _ (mem_getD (show k < l.length by omega))
  obtain ⟨hbb, hbl⟩ := clear_ok hc
  obtain ⟨t, ht⟩ := hasF_all (x := p[k]?.getD []) hbb (by rw [hl1, hbx.2, hbl, hlen])
  refine ⟨t, ht, fun hv => ?_⟩
  subst hv
  cases t with
  | false => rfl
  | true =>
    obtain ⟨e, he⟩ := clear_law hc hl k (by omega)
    obtain ⟨-, -, hv2⟩ := hasF_ok ht
    exact absurd ⟨hv1.1 rfl, hv2.1 rfl⟩ (bcom_bad (by rw [hbx.2, hbl, hlen]) he)
end Go.Proofs.YtmjcnpolnknkkaaGreatDoor
