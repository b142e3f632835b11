/- The walks of package poly: Horner, Added, Powers. The walks of package poly: Horner, Powers, Slope, Derive; of package center. The walks of package poly: Slope, Derive. The walks of poly.Derive and of package center. -/
import Derived.Test.YtopgjbjpmnlldaaDoorNest
import Derived.Deep.RegionWith
import Derived.Maps.AppendAt
set_option linter.unusedVariables false
set_option linter.unusedSimpArgs false
namespace Go.Proofs.YtopgjbjpmnlldaaDoor
open Go.RowKit

theorem pboth_none {p : List Int} {x : Sp} (h : pbothF p x = none) : 0 < p.length ∧ p.length ≤ 5 ∧ (∀ n ∈ p, M n) ∧ Rt x := by
  unfold pbothF at h
  split at h
  · cases h
  · rename_i hp
    unfold pcheckF at hp
    split at hp
    · cases hp
    · split at hp
      · cases hp
      · split at hp
        · exact ⟨by omega, by omega, by assumption, checkF_none.1 h⟩
        · cases hp
theorem getD_drop (p : List Int) (k : Nat) (h : k < p.length) : p.drop k = (p[k]?.getD 0) :: p.drop (k + 1) := by
  rw [List.drop_eq_getElem_cons h, List.getElem?_eq_getElem h]; rfl

theorem added_bad1 {x s : Sp} {k e : Nat} {n : Int} {p : List Int} (h : raisedF x k = .error e) : addedF x k s (n :: p) = .error e := by
  unfold addedF; rw [h]
theorem added_bad2 {x s r : Sp} {k e : Nat} {n : Int} {p : List Int} (h : raisedF x k = .ok r) (h2 : prodF ⟨n, n⟩ r = .error e) : addedF x k s (n :: p) = .error e := by
  unfold addedF; rw [h]; dsimp only; rw [h2]
theorem added_bad3 {x s r t : Sp} {k e : Nat} {n : Int} {p : List Int} (h : raisedF x k = .ok r) (h2 : prodF ⟨n, n⟩ r = .ok t) (h3 : sumF s t = .error e) : addedF x k s (n :: p) = .error e := by
  unfold addedF; rw [h]; dsimp only; rw [h2]; dsimp only; rw [h3]
theorem added_good {x s r t u : Sp} {k : Nat} {n : Int} {p : List Int} (h : raisedF x k = .ok r) (h2 : prodF ⟨n, n⟩ r = .ok t) (h3 : sumF s t = .ok u) : addedF x k s (n :: p) = addedF x (k + 1) u p := by
  conv => lhs; unfold addedF
  rw [h]; dsimp only; rw [h2]; dsimp only; rw [h3]
theorem raised_M {a s : Sp} {t : Nat} (h1 : M a.lo) (h2 : M a.hi) (h : raisedF a t = .ok s) : M s.lo ∧ M s.hi := by
  have sg : ∀ (n : Int) (p : Int × Int), M n → signedF n t = .ok p → M p.1 ∧ M p.2 := by
    intro n p hn hp
    unfold signedF at hp
    obtain ⟨_, _⟩ := hn
    split at hp
    · obtain ⟨a1, a2, a3⟩ := again_bd n (by assumption) t p.1 p.2 hp
      exact ⟨⟨by omega, by omega⟩, ⟨by omega, by omega⟩⟩
    · split at hp
      · cases hp
      · rename_i l u hq
        injection hp with hp
        subst hp
        obtain ⟨a1, a2, a3⟩ := again_bd (-n) (by omega) t l u hq
        exact ⟨⟨by dsimp only; omega, by dsimp only; omega⟩, ⟨by dsimp only; omega, by dsimp only; omega⟩⟩
  have hp : M (if t % 2 = 0 then apartF a else (a.lo, a.hi)).1 ∧ M (if t % 2 = 0 then apartF a else (a.lo, a.hi)).2 := by
    split
    · exact apart_bd a h1 h2
    · exact ⟨h1, h2⟩
  unfold raisedF raisedG at h
  split at h
  · cases h
  · rename_i p1 hq1
    split at h
    · cases h
    · rename_i p2 hq2
      injection h with h
      subst h
      exact ⟨(sg _ _ hp.1 hq1).1, (sg _ _ hp.2 hq2).2⟩

end Go.Proofs.YtopgjbjpmnlldaaDoor

namespace Go.Proofs.YtopgjbjpmnlldaaDoor
open Go.RowKit

end Go.Proofs.YtopgjbjpmnlldaaDoor

namespace Go.Proofs.YtopgjbjpmnlldaaDoor
open Go.RowKit

def preL (L : List Int) : Except Nat (List Int) → Except Nat (List Int)
  | .error e => .error e
  | .ok l => .ok (L ++ l)
theorem preL_nil (r : Except Nat (List Int)) : preL [] r = r := by cases r <;> rfl
theorem slopeG_ok {k : Nat} {n : Int} {p L : List Int} (h : M (n * k)) : preL L (slopeG k (n :: p)) = preL (L ++ [n * k]) (slopeG (k + 1) p) := by
  conv => lhs; unfold slopeG
  rw [if_pos h]
  cases slopeG (k + 1) p <;> simp [preL]
theorem slopeG_bad {k : Nat} {n : Int} {p L : List Int} (h : ¬ M (n * k)) : preL L (slopeG k (n :: p)) = .error 4 := by
  unfold slopeG
  rw [if_neg h]
  rfl
theorem slope_one {p : List Int} (h : p.length = 1) : slopeF p = .ok [0] := by simp [slopeF, h]
theorem slope_more {p : List Int} (h : p.length ≠ 1) : slopeF p = preL [] (slopeG 1 (p.drop 1)) := by rw [preL_nil]; simp [slopeF, h, List.drop_one]

end Go.Proofs.YtopgjbjpmnlldaaDoor

namespace Go.Proofs.YtopgjbjpmnlldaaDoor
open Go.RowKit

theorem ilR_error {w : World} {n : Nat} {v : Value} (h : ilR w (.error n) v) : v = .tuple #[.slice none 0 0, .iface 62 (.int .i64 n)] := h
theorem ilR_ok {w : World} {l : List Int} {v : Value} (h : ilR w (.ok l) v) : ∃ A c, v = .tuple #[.slice A l.length c, .nilIface] ∧ RdI w A l ∧ l.length ≤ c := h
theorem ilR_up {w w' : World} {r : Except Nat (List Int)} {v : Value} (h : ilR w r v) (hu : Up w w') : ilR w' r v := by
  cases r with
  | error n => exact h
  | ok l =>
    obtain ⟨A, c, rfl, hr, hc⟩ := h
    exact ⟨A, c, rfl, RdI.up hr hu, hc⟩
theorem pcheck_none {p : List Int} (h : pcheckF p = none) : 0 < p.length ∧ p.length ≤ 5 ∧ (∀ n ∈ p, M n) := by
  unfold pcheckF at h
  split at h
  · cases h
  · split at h
    · cases h
    · split at h
      · exact ⟨by omega, by omega, by assumption⟩
      · cases h

theorem slopeG_bd : ∀ (k : Nat) (p l : List Int), slopeG k p = .ok l → l.length = p.length ∧ ∀ n ∈ l, M n
  | _, [], l, h => by simp [slopeG] at h; subst h; simp
  | k, n :: p, l, h => by
    unfold slopeG at h
    split at h
    · rename_i hM
      split at h
      · cases h
      · rename_i l' hl
        injection h with h
        subst h
        obtain ⟨h1, h2⟩ := slopeG_bd (k + 1) p l' hl
        exact ⟨by simp [h1], fun x hx => by
          rcases List.mem_cons.1 hx with e | e
          · rw [e]; exact hM
          · exact h2 x e⟩
    · cases h
theorem slope_bd {p l : List Int} (h5 : p.length ≤ 5) (h0 : 0 < p.length) (h : slopeF p = .ok l) : 0 < l.length ∧ l.length ≤ 5 ∧ ∀ n ∈ l, M n := by
  unfold slopeF at h
  split at h
  · injection h with h
    subst h
    exact ⟨by simp, by simp, fun x hx => by simp at hx; subst hx; exact ⟨by decide, by decide⟩⟩
  · obtain ⟨h1, h2⟩ := slopeG_bd _ _ _ h
    rw [List.length_tail] at h1
    exact ⟨by omega, by omega, h2⟩
theorem steep_bad {p : List Int} {x : Sp} {e : Nat} (h : slopeF p = .error e) : steepF p x = .error e := by simp [steepF, h]
theorem steep_good {p d : List Int} {x : Sp} (h : slopeF p = .ok d) : steepF p x = nestedF x d := by simp [steepF, h]

end Go.Proofs.YtopgjbjpmnlldaaDoor
