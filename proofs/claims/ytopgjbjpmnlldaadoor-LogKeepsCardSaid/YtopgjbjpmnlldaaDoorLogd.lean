/- The log, part four: what a crash leaves. -/
import Derived.Test.YtopgjbjpmnlldaaDoorLogc
import Derived.Lib.LastIndexByte

set_option linter.unusedVariables false
set_option linter.unusedSimpArgs false
namespace Go.Proofs.YtopgjbjpmnlldaaDoor
open Go.RowKit

/-- Of the first m bytes of records: how many are whole. -/
def wholeN : List (List UInt8) → Nat → Nat
  | [], _ => 0
  | r :: rs, m => if r.length + 1 ≤ m then wholeN rs (m - (r.length + 1)) + 1 else 0
theorem joinR_cons (r : List UInt8) (rs : List (List UInt8)) : joinR (r :: rs) = r ++ 10 :: joinR rs := by simp [joinR]
theorem joinR_app (a b : List (List UInt8)) : joinR (a ++ b) = joinR a ++ joinR b := by simp [joinR]
theorem whole_le : ∀ (rs : List (List UInt8)) (m : Nat), wholeN rs m ≤ rs.length
  | [], m => by simp [wholeN]
  | r :: rs, m => by
    have := whole_le rs (m - (r.length + 1))
    unfold wholeN
    split
    · simp only [List.length_cons]; omega
    · simp
theorem whole_take : ∀ (rs : List (List UInt8)) (p : List UInt8) (m : Nat), (∀ r ∈ rs, ∀ x ∈ r, x ≠ 10) → (∀ x ∈ p, x ≠ 10) → ∃ q, (joinR rs ++ p).take m = joinR (rs.take (wholeN rs m)) ++ q ∧ ∀ x ∈ q, x ≠ 10
  | [], p, m, _, hp => ⟨p.take m, by simp [joinR, wholeN], fun x hx => hp x (List.mem_of_mem_take hx)⟩
  | r :: rs, p, m, hr, hp => by
    unfold wholeN
    split
    · rename_i h
      obtain ⟨q, e, hq⟩ := whole_take rs p (m - (r.length + 1)) (fun r' h' => hr r' (by simp [h'])) hp
      refine ⟨q, ?_, hq⟩
      obtain ⟨n, hn⟩ : ∃ n, m = r.length + 1 + n := ⟨m - (r.length + 1), by omega⟩
      have e1 : m - (r.length + 1) = n := by omega
      rw [e1] at e ⊢
      rw [List.take_succ_cons, joinR_cons, joinR_cons, List.append_assoc, List.append_assoc, List.cons_append, List.cons_append, ← e, List.take_append, hn, List.take_of_length_le (by omega)]
      have e2 : r.length + 1 + n - r.length = n + 1 := by omega
      rw [e2, List.take_succ_cons]
    · rename_i h
      refine ⟨r.take m, ?_, fun x hx => hr r (by simp) x (List.mem_of_mem_take hx)⟩
      rw [joinR_cons, List.append_assoc, List.take_append_of_le_length (by omega)]
      simp [joinR]
theorem whole_mark : ∀ (i : Nat) (rs : List (List UInt8)) (m : Nat), i ≤ rs.length → ((joinR (rs.take i)).length ≤ m ↔ i ≤ wholeN rs m)
  | 0, rs, m, _ => by simp [joinR]
  | i + 1, [], m, h => by simp at h
  | i + 1, r :: rs, m, h => by
    have ih := whole_mark i rs (m - (r.length + 1)) (by simpa using h)
    rw [List.take_succ_cons, joinR_cons]
    unfold wholeN
    split
    · simp only [List.length_append, List.length_cons]; omega
    · simp only [List.length_append, List.length_cons]; omega
theorem count_no {q : List UInt8} (h : ∀ x ∈ q, x ≠ 10) : q.count 10 = 0 := List.count_eq_zero.2 (fun hm => h 10 hm rfl)
theorem count_join {rs : List (List UInt8)} (h : ∀ r ∈ rs, ∀ x ∈ r, x ≠ 10) : (joinR rs).count 10 = rs.length := by
  induction rs with
  | nil => rfl
  | cons r rs ih =>
    rw [joinR_cons, List.count_append, List.count_cons, ih (fun r' h' => h r' (by simp [h'])), count_no (h r (by simp))]
    simp
theorem joinR_last {rs : List (List UInt8)} (h : rs ≠ []) : ∃ t, joinR rs = t ++ [10] := by
  rcases List.eq_nil_or_concat rs with e | ⟨rs', r, e⟩
  · exact absurd e h
  · subst e
    exact ⟨joinR rs' ++ r, by simp [joinR]⟩
theorem lastIdx_no {q : List UInt8} (h : ∀ x ∈ q, x ≠ 10) : Lib.lastIndexByte ⟨q.toArray⟩ 10 = -1 := by
  rcases Lib.lastIdx_spec ⟨q.toArray⟩ 10 (⟨q.toArray⟩ : ByteArray).size with ⟨e, _⟩ | ⟨i, hi, _, hc, _⟩
  · exact e
  · exfalso
    have hi' : i < q.length := by simpa [ByteArray.size] using hi
    have e1 : (⟨q.toArray⟩ : ByteArray).data[i]! = q[i] := by simp [List.getElem?_eq_getElem hi']
    rw [e1] at hc
    exact h q[i] (List.getElem_mem hi') (UInt8.toNat_inj.1 (by have : (q[i].toNat : Int) = 10 := hc; show q[i].toNat = 10; omega))
theorem lastIdx_some (t : List UInt8) {q : List UInt8} (h : ∀ x ∈ q, x ≠ 10) : Lib.lastIndexByte ⟨(t ++ 10 :: q).toArray⟩ 10 = t.length := by
  have hat : ∀ j, j < (t ++ 10 :: q).length → (⟨(t ++ 10 :: q).toArray⟩ : ByteArray).data[j]! = (t ++ 10 :: q)[j]?.getD 0 := fun j hj => by
    simp [List.getElem?_eq_getElem hj]
  have ht : (t ++ 10 :: q)[t.length]?.getD 0 = 10 := by simp
  have hl : (t ++ 10 :: q).length = t.length + q.length + 1 := by simp; omega
  rcases Lib.lastIdx_spec ⟨(t ++ 10 :: q).toArray⟩ 10 (⟨(t ++ 10 :: q).toArray⟩ : ByteArray).size with ⟨_, hn⟩ | ⟨i, hi, e, hc, hb⟩
  · exfalso
    have h1 := hn t.length (by simp [ByteArray.size])
    rw [hat _ (by omega), ht] at h1
    exact h1 rfl
  · have hi' : i < (t ++ 10 :: q).length := by simpa [ByteArray.size] using hi
    refine e.trans ?_
    rcases Nat.lt_trichotomy i t.length with h1 | h1 | h1
    · exfalso
      have h2 := hb t.length h1 (by simp [ByteArray.size])
      rw [hat _ (by omega), ht] at h2
      exact h2 rfl
    · rw [h1]
    · exfalso
      rw [hat _ hi'] at hc
      obtain ⟨k, hk⟩ : ∃ k, i = t.length + (k + 1) := ⟨i - t.length - 1, by omega⟩
      have hkq : k < q.length := by omega
      have e1 : (t ++ 10 :: q)[i]?.getD 0 = q[k] := by
        rw [hk, List.getElem?_append_right (by omega)]
        have : t.length + (k + 1) - t.length = k + 1 := by omega
        rw [this, List.getElem?_cons_succ, List.getElem?_eq_getElem hkq]
        rfl
      rw [e1] at hc
      exact h q[k] (List.getElem_mem hkq) (UInt8.toNat_inj.1 (by have : (q[k].toNat : Int) = 10 := hc; show q[k].toNat = 10; omega))
theorem lastIdx_join {rs : List (List UInt8)} {q : List UInt8} (hq : ∀ x ∈ q, x ≠ 10) : Lib.lastIndexByte ⟨(joinR rs ++ q).toArray⟩ 10 = (joinR rs).length - 1 := by
  by_cases h : rs = []
  · subst h
    exact (lastIdx_no hq).trans (by simp [joinR])
  · obtain ⟨t, e⟩ := joinR_last h
    rw [e, List.append_assoc]
    refine (lastIdx_some t hq).trans ?_
    simp
/-- The bytes that a crash may leave: so many. -/
def keepN (l : Lg) (keep : Int) : Nat := l.safe + (max 0 (min keep ((l.text.length : Int) - l.safe))).toNat
def crashF (l : Lg) (keep : Int) : Lg :=
  { l with all := l.all.take (wholeN l.recs (keepN l keep)), recs := l.recs.take (wholeN l.recs (keepN l keep)), part := [], safe := (joinR (l.recs.take (wholeN l.recs (keepN l keep)))).length, left := -1, stopped := false }
theorem crash_ok {l : Lg} (h : l.Ok) (keep : Int) : (crashF l keep).Ok := by
  refine ⟨?_, ?_, ?_, ?_, ⟨by simp [crashF], by simp [crashF]⟩, fun _ => rfl, ?_, ⟨by simp [crashF], by simp [crashF]⟩⟩
  · have := h.few; simp [crashF]; omega
  · simp [crashF, h.recs]
  · exact fun r hr => h.rows r (List.mem_of_mem_take hr)
  · exact fun b hb => h.boxes b (List.mem_of_mem_take hb)
  · simp [crashF, Lg.text]
/-- A row of boxes, cut. -/
theorem OwnR.cut {α : Type} {T : TypeId} {R : World → Option Addr → List α → Prop} {w : World} {base n c k : Nat} {A : Option Addr} {L : List (List α)} (h : OwnR T R w base (.slice A n c) L) (hk : k ≤ L.length) : OwnR T R w base (.slice A k c) (L.take k) := by
  obtain ⟨vs, h1, h2⟩ := h
  obtain ⟨hl, h3⟩ := h1
  refine ⟨vs.take k, ⟨by simp [hl], ?_⟩, fun j hj => ?_⟩
  · rcases h3 with ⟨e, h0⟩ | ⟨g, cap, cur, hv, hg, hh, hn, hcap, hsz, htake⟩
    · left
      injection e with e1 e2 e3
      subst e1 e2 e3
      have : k = 0 := by omega
      subst this
      exact ⟨rfl, by simp⟩
    · right
      injection hv with e1 e2 e3
      subst e1 e2 e3
      have e4 : (L.take k).length = k := by rw [List.length_take]; omega
      rw [e4]
      refine ⟨g, c, cur, rfl, hg, hh, by omega, hcap, hsz, ?_⟩
      have h5 : (cur.toList.take (L.length * 1)).take (k * 1) = vs.take (k * 1) := by rw [htake]
      rw [List.take_take, Nat.min_eq_left (by omega)] at h5
      simpa using h5
  · have hj' : j < k := by simp at hj; omega
    obtain ⟨A', c', q1, q2, q3, q4⟩ := h2 j (by omega)
    have e1 : (L.take k)[j]? = L[j]? := by rw [List.getElem?_take]; simp [hj']
    have e2 : (vs.take k)[j]? = vs[j]? := by rw [List.getElem?_take]; simp [hj']
    rw [e1, e2]
    exact ⟨A', c', q1, q2, q3, fun b o e => ⟨(q4 b o e).1, by have h9 := (q4 b o e).2; revert h9; cases A <;> exact id⟩⟩
end Go.Proofs.YtopgjbjpmnlldaaDoor
