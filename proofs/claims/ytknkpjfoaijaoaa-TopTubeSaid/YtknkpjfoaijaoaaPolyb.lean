/- The walks of package poly: Horner, Added, Powers. -/
import Derived.Test.YtknkpjfoaijaoaaNest
import Derived.Deep.RegionWith
set_option linter.unusedVariables false
set_option linter.unusedSimpArgs false
namespace Go.Proofs.Ytknkpjfoaijaoaa
open Go.RowKit

theorem pboth_none {p : List Int} {x : Sp} (h : pbothF p x = none) : 0 < p.length ∧ p.length ≤ 5 ∧ (∀ n ∈ p, M n) ∧ Rt x := by
  unfold pbothF at h
  split at h
  · cases h
  · rename_i hp
    unfold pcheckF at hp
    split at hp
    · cases hp
    · split at hp
      · cases hp
      · split at hp
        · exact ⟨by omega, by omega, by assumption, checkF_none.1 h⟩
        · cases hp
theorem getD_drop (p : List Int) (k : Nat) (h : k < p.length) : p.drop k = (p[k]?.getD 0) :: p.drop (k + 1) := by
  rw [List.drop_eq_getElem_cons h, List.getElem?_eq_getElem h]; rfl

theorem added_bad1 {x s : Sp} {k e : Nat} {n : Int} {p : List Int} (h : raisedF x k = .error e) : addedF x k s (n :: p) = .error e := by
  unfold addedF; rw [h]
theorem added_bad2 {x s r : Sp} {k e : Nat} {n : Int} {p : List Int} (h : raisedF x k = .ok r) (h2 : prodF ⟨n, n⟩ r = .error e) : addedF x k s (n :: p) = .error e := by
  unfold addedF; rw [h]; dsimp only; rw [h2]
theorem added_bad3 {x s r t : Sp} {k e : Nat} {n : Int} {p : List Int} (h : raisedF x k = .ok r) (h2 : prodF ⟨n, n⟩ r = .ok t) (h3 : sumF s t = .error e) : addedF x k s (n :: p) = .error e := by
  unfold addedF; rw [h]; dsimp only; rw [h2]; dsimp only; rw [h3]
theorem added_good {x s r t u : Sp} {k : Nat} {n : Int} {p : List Int} (h : raisedF x k = .ok r) (h2 : prodF ⟨n, n⟩ r = .ok t) (h3 : sumF s t = .ok u) : addedF x k s (n :: p) = addedF x (k + 1) u p := by
  conv => lhs; unfold addedF
  rw [h]; dsimp only; rw [h2]; dsimp only; rw [h3]
theorem raised_M {a s : Sp} {t : Nat} (h1 : M a.lo) (h2 : M a.hi) (h : raisedF a t = .ok s) : M s.lo ∧ M s.hi := by
  have sg : ∀ (n : Int) (p : Int × Int), M n → signedF n t = .ok p → M p.1 ∧ M p.2 := by
    intro n p hn hp
    unfold signedF at hp
    obtain ⟨_, _⟩ := hn
    split at hp
    · obtain ⟨a1, a2, a3⟩ := again_bd n (by assumption) t p.1 p.2 hp
      exact ⟨⟨by omega, by omega⟩, ⟨by omega, by omega⟩⟩
    · split at hp
      · cases hp
      · rename_i l u hq
        injection hp with hp
        subst hp
        obtain ⟨a1, a2, a3⟩ := again_bd (-n) (by omega) t l u hq
        exact ⟨⟨by dsimp only; omega, by dsimp only; omega⟩, ⟨by dsimp only; omega, by dsimp only; omega⟩⟩
  have hp : M (if t % 2 = 0 then apartF a else (a.lo, a.hi)).1 ∧ M (if t % 2 = 0 then apartF a else (a.lo, a.hi)).2 := by
    split
    · exact apart_bd a h1 h2
    · exact ⟨h1, h2⟩
  unfold raisedF raisedG at h
  split at h
  · cases h
  · rename_i p1 hq1
    split at h
    · cases h
    · rename_i p2 hq2
      injection h with h
      subst h
      exact ⟨(sg _ _ hp.1 hq1).1, (sg _ _ hp.2 hq2).2⟩

end Go.Proofs.Ytknkpjfoaijaoaa
