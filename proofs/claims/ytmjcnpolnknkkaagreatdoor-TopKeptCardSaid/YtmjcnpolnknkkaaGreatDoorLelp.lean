/- TopKept, the plain part: the log of a tube's boxes. -/
import Derived.Test.YtmjcnpolnknkkaaGreatDoorLoge
import Derived.Test.YtmjcnpolnknkkaaGreatDoorTube

set_option linter.unusedVariables false
set_option linter.unusedSimpArgs false
namespace Go.Proofs.YtmjcnpolnknkkaaGreatDoor
open Go.RowKit

/-- The log, nothing else turned since w. -/
structure LgW (w W : World) (g : Nat) (v : Value) (l : Lg) : Prop where
  log : LogS (fun b => b ≤ g) W g v l
  since : Up w W
  gw : w.heap.size ≤ g
theorem LgW.up {w W W' : World} {g : Nat} {v : Value} {l : Lg} (h : LgW w W g v l) (hu : Up W W') : LgW w W' g v l := ⟨h.log.up hu, h.since.call hu, h.gw⟩
def RetW (w : World) (g : Nat) (r : Value) (l' : Lg) (e : Ending) (W' : World) : Prop := ∃ v', e = .returned r ∧ LgW w W' g v' l'
theorem RetL.w {w W : World} {g : Nat} {v r : Value} {l l' : Lg} {e : Ending} {W' : World} (h : LgW w W g v l) (hr : RetL (fun b => b ≤ g) g v W r l' e W') : RetW w g r l' e W' := by
  obtain ⟨v', e1, h1, h2, -⟩ := hr
  exact ⟨v', e1, h1, h2.below h.since h.gw (fun k hk => by have := (h.log.gt k hk).1; have := h.gw; omega), h.gw⟩
section
variable {w W : World} {g : Nat} {v : Value} {l l' : Lg}
theorem fail_W (n : Int) (h : LgW w W g v l) (hn : I64 n) : Calls Tryz.prog 26 #[.pointer (some ⟨g, 0, none⟩), .int .i64 n] W (RetW w g (.tuple #[]) (failF l n)) :=
  (fail_any g v l n W h.log hn).mono fun _ _ hr => RetL.w h hr
theorem crash_W (n : Int) (h : LgW w W g v l) (hn : I64 n) : Calls Tryz.prog 29 #[.pointer (some ⟨g, 0, none⟩), .int .i64 n] W (RetW w g (.tuple #[]) (crashF l n)) :=
  (crash_any g v l n W h.log hn).mono fun _ _ hr => RetL.w h hr
theorem sync_W {r : Option Nat} (h : LgW w W g v l) (hs : syncF l = (r, l')) : Calls Tryz.prog 28 #[.pointer (some ⟨g, 0, none⟩)] W (RetW w g (errV r) l') :=
  (sync_any g v l W h.log).mono fun _ _ hr => by rw [hs] at hr; exact RetL.w h hr
theorem put_W {b : List Sp} {r : Option Nat} {A : Option Addr} {c : Nat} (h : LgW w W g v l) (hs : putF l b = (r, l')) (hb : RdS w A b) (hp : Pow w) :
    Calls Tryz.prog 27 #[.pointer (some ⟨g, 0, none⟩), .slice A b.length c] W (RetW w g (errV r) l') :=
  (put_any g v l A b c W h.log (hb.up h.since) (fun h0 k o e => by
    obtain ⟨b', o', e', hb', -⟩ := hb.at h0
    rw [e] at e'
    injection e' with e'
    injection e' with e1 e2
    have := h.gw
    omega) (hp.up h.since)).mono fun _ _ hr => by rw [hs] at hr; exact RetL.w h hr
end
/-- The log of the first k boxes. -/
structure KeptP (L : List (List Sp)) (n : Nat) (k : Nat) (l : Lg) : Prop where
  all : l.all = L.take k
  sides : l.sides = (n : Int)
theorem kept_put {L : List (List Sp)} {n k : Nat} {l : Lg} (h : KeptP L n k l) (hk : k < L.length) (hL : L.length ≤ 20) (hb : Bx (L[k]?.getD [])) (hn : (L[k]?.getD []).length = n) :
    ∃ r l', putF l (L[k]?.getD []) = (r, l') ∧ ((r = some 6 ∧ KeptP L n k l') ∨ (r = none ∧ KeptP L n (k + 1) l')) := by
  refine ⟨(putF l (L[k]?.getD [])).1, (putF l (L[k]?.getD [])).2, rfl, ?_⟩
  have hal : l.all.length = k := by rw [h.all, List.length_take]; omega
  rcases put_cases l (L[k]?.getD []) with ⟨hs, e⟩ | ⟨hs, h2, e⟩ | ⟨hs, h2, ⟨m, hc, e⟩ | ⟨hc, ⟨hm, e⟩ | ⟨hm, ⟨h0, e⟩ | ⟨h0, e⟩⟩⟩⟩
  · rw [e]; exact .inl ⟨rfl, h⟩
  · omega
  · rw [hb.check] at hc; cases hc
  · rw [h.sides, hn] at hm; exact absurd rfl hm
  · rw [e]; exact .inl ⟨rfl, ⟨h.all, h.sides⟩⟩
  · rw [e]
    refine .inr ⟨rfl, ⟨?_, h.sides⟩⟩
    show l.all ++ [L[k]?.getD []] = _
    rw [h.all, List.take_succ_eq_append_getElem hk, List.getElem?_eq_getElem hk]
    rfl
theorem kept_sync {L : List (List Sp)} {n k : Nat} {l : Lg} (h : KeptP L n k l) : ∃ r l', syncF l = (r, l') ∧ (r = some 6 ∨ r = none) ∧ KeptP L n k l' := by
  refine ⟨(syncF l).1, (syncF l).2, rfl, ?_⟩
  unfold syncF
  by_cases h1 : l.stopped = true
  · rw [if_pos h1]; exact ⟨.inl rfl, h⟩
  · rw [if_neg h1]
    by_cases h0 : l.left = 0
    · rw [if_pos h0]; exact ⟨.inl rfl, h.all, h.sides⟩
    · rw [if_neg h0]; exact ⟨.inr rfl, h.all, h.sides⟩
theorem kept_crash {L : List (List Sp)} {n k : Nat} {l : Lg} (h : KeptP L n k l) (hk : k ≤ L.length) (keep : Int) : ∃ m, m ≤ L.length ∧ (crashF l keep).all = L.take m := by
  refine ⟨min (wholeN l.recs (keepN l keep)) k, by omega, ?_⟩
  show l.all.take _ = _
  rw [h.all, List.take_take]
/-- What a tube's boxes are. -/
structure TubeP (s : Sy) (b : List Sp) (L : List (List Sp)) : Prop where
  ready : readyF s b = none
  bx : ∀ k, k < L.length → Bx (L[k]?.getD []) ∧ (L[k]?.getD []).length = b.length
  step : ∀ i, i + 1 < L.length → ofF s (L[i]?.getD []) = .ok (L[i + 1]?.getD [])
  good : ∀ i, i < L.length → readyF s (L[i]?.getD []) = none
theorem tube_of {s : Sy} {b : List Sp} {n : Int} {L : List (List Sp)} (h : runF s b n = .ok L) : TubeP s b L := by
  obtain ⟨h1, h2, h3, h4⟩ := run_parts h
  obtain ⟨g1, g2, g3⟩ := ready_good h3
  have hb := run_bx g1 n.toNat b L g2 g3 h4
  have hall : ∀ k, k < L.length → Bx (L[k]?.getD []) ∧ (L[k]?.getD []).length = b.length := fun k hk => by
    have hm : L[k]?.getD [] ∈ L := by rw [List.getElem?_eq_getElem hk]; exact List.getElem_mem hk
    obtain ⟨q1, q2⟩ := hb _ hm
    exact ⟨q1, by rw [q2, g3]⟩
  have hrd : ∀ i, i < L.length → readyF s (L[i]?.getD []) = none := fun i hi => by
    obtain ⟨q1, q2⟩ := hall i hi
    have hy : ycheckF s = none := by
      unfold readyF at h3
      cases hy : ycheckF s with
      | none => rfl
      | some e => rw [hy] at h3; cases h3
    unfold readyF
    rw [hy, q1.check]
    dsimp only
    rw [if_pos (by rw [q2, g3])]
  refine ⟨h3, hall, fun i hi => ?_, hrd⟩
  unfold ofF
  rw [hrd i (by omega)]
  exact run_step n.toNat b L h4 i hi
theorem inF_left : ∀ (z a b : List Sp), z.length = a.length → a.length = b.length → inF z a = true → inF z (bbothF a b) = true
  | [], _, _, _, _, _ => rfl
  | s :: z, [], _, h, _, _ => by simp at h
  | s :: z, t :: a, [], _, h, _ => by simp at h
  | s :: z, t :: a, u :: b, h1, h2, h => by
    unfold inF at h
    split at h
    · cases h
    · rename_i h3
      show inF (s :: z) (bothF t u :: bbothF a b) = true
      unfold inF
      rw [if_neg (by simp only [bothF]; omega)]
      exact inF_left z a b (by simpa using h1) (by simpa using h2) h
theorem inF_right : ∀ (a b : List Sp), a.length = b.length → inF b (bbothF a b) = true
  | [], [], _ => rfl
  | [], _ :: _, h => by simp at h
  | _ :: _, [], h => by simp at h
  | t :: a, u :: b, h => by
    show inF (u :: b) (bothF t u :: bbothF a b) = true
    unfold inF
    rw [if_neg (by simp only [bothF]; omega)]
    exact inF_right a b (by simpa using h)
theorem bboth_bx {a b : List Sp} (ha : Bx a) (hb : Bx b) (hl : a.length = b.length) : Bx (bbothF a b) := by
  have hlen := bbothF_len hl
  refine ⟨by rw [hlen]; exact ha.pos, by rw [hlen]; exact ha.few, fun p hp => ?_⟩
  obtain ⟨i, hi, rfl⟩ := List.getElem_of_mem hp
  have hi' : i < a.length := by rw [hlen] at hi; exact hi
  have e : (bbothF a b)[i] = bothF a[i] b[i] := by simp [bbothF]
  rw [e]
  obtain ⟨⟨p1, p2⟩, ⟨p3, p4⟩, p5⟩ := ha.spans a[i] (List.getElem_mem hi')
  obtain ⟨⟨q1, q2⟩, ⟨q3, q4⟩, q5⟩ := hb.spans b[i] (List.getElem_mem (by omega))
  exact ⟨⟨by simp only [bothF]; omega, by simp only [bothF]; omega⟩, ⟨by simp only [bothF]; omega, by simp only [bothF]; omega⟩, by simp only [bothF]; omega⟩
/-- Each box is within the hull. -/
theorem hull_within : ∀ (L : List (List Sp)) (x : List Sp), Bx x → (∀ y ∈ L, Bx y ∧ y.length = x.length) → Bx (hullG x L) ∧ (hullG x L).length = x.length ∧ ∀ z, z.length = x.length → (inF z x = true ∨ z ∈ L) → inF z (hullG x L) = true
  | [], x, hx, _ => ⟨hx, rfl, fun z _ h => by rcases h with h | h; exact h; cases h⟩
  | y :: L, x, hx, h => by
    obtain ⟨hy, hl⟩ := h y (by simp)
    have hlen := bbothF_len hl.symm
    obtain ⟨h1, h2, h3⟩ := hull_within L (bbothF x y) (bboth_bx hx hy hl.symm) (fun z hz => by obtain ⟨k1, k2⟩ := h z (by simp [hz]); exact ⟨k1, by rw [k2, hlen]⟩)
    refine ⟨h1, h2.trans hlen, fun z hz hin => h3 z (by rw [hz, hlen]) ?_⟩
    rcases hin with hin | hin
    · exact .inl (inF_left z x y hz hl.symm hin)
    · rcases List.mem_cons.1 hin with e | hin
      · subst e; exact .inl (inF_right x z hl.symm)
      · exact .inr hin
theorem inF_refl : ∀ z : List Sp, inF z z = true
  | [] => rfl
  | s :: z => by unfold inF; rw [if_neg (by omega)]; exact inF_refl z
theorem hull_is {L : List (List Sp)} {n : Nat} (h : ∀ y ∈ L, Bx y ∧ y.length = n) (h0 : L ≠ []) : ∃ H, hullF L = .ok H ∧ ∀ z ∈ L, withinF z H = .ok true := by
  cases L with
  | nil => exact absurd rfl h0
  | cons x r =>
    obtain ⟨hx, hn⟩ := h x (by simp)
    obtain ⟨h1, h2, h3⟩ := hull_within (x :: r) x hx (fun y hy => by obtain ⟨k1, k2⟩ := h y hy; exact ⟨k1, by omega⟩)
    refine ⟨hullG x (x :: r), rfl, fun z hz => ?_⟩
    obtain ⟨k1, k2⟩ := h z hz
    unfold withinF btwoF
    rw [k1.check, h1.check]
    dsimp only
    rw [if_pos (by rw [k2, h2, hn]), h3 z (by omega) (.inr hz)]
    rfl
end Go.Proofs.YtmjcnpolnknkkaaGreatDoor
