/- The walks of form.small, Numbers, exact, Point, At. -/
import Derived.Test.YtmjcnpolnknkkaaGreatDoorFormd
set_option linter.unusedVariables false
set_option linter.unusedSimpArgs false
namespace Go.Proofs.YtmjcnpolnknkkaaGreatDoor
open Go.RowKit

theorem sm_dec (n : Int) : decide (Sm n) = (decide (-20000 ≤ n) && decide (n ≤ 20000)) := by unfold Sm; exact Bool.decide_and ..
theorem numbers_eq (x : List Int) : numbersF x = if x.any (fun n => !decide (Sm n)) = true then some 1 else none := by
  unfold numbersF
  by_cases h : ∀ n ∈ x, Sm n
  · rw [if_pos h, if_neg]
    intro h2
    obtain ⟨n, hn, h3⟩ := List.any_eq_true.1 h2
    simp [h n hn] at h3
  · rw [if_neg h, if_pos]
    refine Classical.byContradiction fun h2 => h fun n hn => Classical.byContradiction fun h3 => h2 (List.any_eq_true.2 ⟨n, hn, ?_⟩)
    simp [h3]
/-- So many factors of 20000 at the most. -/
def Bd (n : Int) (u : Nat) : Prop := -(20000 ^ u : Int) ≤ n ∧ n ≤ 20000 ^ u
theorem Bd.mul {n v : Int} {u : Nat} (h : Bd n u) (hv : Sm v) : Bd (n * v) (u + 1) := by
  unfold Bd at *
  unfold Sm at hv
  rw [Int.pow_succ]
  have h1 : (n * v).natAbs ≤ (20000 ^ u : Int).natAbs * 20000 := by
    rw [Int.natAbs_mul]
    exact Nat.mul_le_mul (by omega) (by omega)
  have h2 : 0 ≤ (20000 ^ u : Int) := Int.pow_nonneg (by omega)
  omega
theorem Bd.big {n : Int} {u : Nat} (h : Bd n u) (hu : u ≤ 4) : -160000000000000000 ≤ n ∧ n ≤ 160000000000000000 := by
  unfold Bd at h
  have h2 : (20000 ^ u : Int) ≤ 160000000000000000 := by
    match u, hu with
    | 0, _ => decide
    | 1, _ => decide
    | 2, _ => decide
    | 3, _ => decide
    | 4, _ => decide
  omega
theorem exactG_step {t : Tm} {k e l : Nat} {m v : Int} {x : List Int} (he : (t.time k).toNat = e) (h0 : 0 ≤ t.time k) (hl : e ≤ l) :
    exactG t k m l (v :: x) = exactG t (k + 1) (m * v ^ e) ((l - e : Nat) : Int) x := by
  conv => lhs; unfold exactG
  rw [he]
  congr 1
  omega
theorem Bd.pow {n v : Int} {u : Nat} (h : Bd n u) (hv : Sm v) : ∀ e : Nat, Bd (n * v ^ e) (u + e)
  | 0 => by simpa using h
  | e + 1 => by
    have := (Bd.pow h hv e).mul hv
    rw [Int.pow_succ, ← Int.mul_assoc]
    exact this
theorem exactG_bd {t : Tm} (ht : ∀ i, 0 ≤ t.time i) : ∀ (x : List Int) (k l u : Nat) (m : Int), u + l = 4 → Bd m u → degX t k x ≤ l → (∀ n ∈ x, Sm n) → Bd (exactG t k m l x) 4
  | [], k, l, u, m, h, hb, _, _ => by
    rw [← h]
    exact hb.pow (show Sm 1000 by unfold Sm; omega) l
  | v :: x, k, l, u, m, h, hb, hd, hs => by
    simp only [degX] at hd
    rw [exactG_step rfl (ht k) (by omega)]
    exact exactG_bd ht x (k + 1) _ (u + (t.time k).toNat) _ (by omega) (hb.pow (hs v (by simp)) _) (by omega) (fun n hn => hs n (by simp [hn]))
theorem exact_bd {t : Tm} {kk : Nat} {x : List Int} (h3 : x.length ≤ 3) (hs : ∀ n ∈ x, Sm n) (hb : Sm t.by_) (hc : tcheckF t kk = none) : -160000000000000000 ≤ exactF t x ∧ exactF t x ≤ 160000000000000000 :=
  (exactG_bd (fun i => ((tcheck_ok hc).1 i).1) x 0 3 1 _ (by omega) (show Bd t.by_ 1 by unfold Sm at hb; unfold Bd; omega) (deg_le hc x h3) hs).big (by omega)
theorem pointG_no {x : List Int} {m : Int} {t : Tm} {l : List Tm} (h : ¬ Sm t.by_) : pointG x m (t :: l) = .error 4 := by
  unfold pointG; rw [if_neg h]
theorem pointG_go {x : List Int} {m : Int} {t : Tm} {l : List Tm} (h : Sm t.by_) : pointG x m (t :: l) = pointG x (m + exactF t x) l := by
  conv => lhs; unfold pointG
  rw [if_pos h]
theorem atq {x : List Int} (h : numbersF x = none) : ∀ n ∈ x, Sm n := by
  unfold numbersF at h
  split at h
  · assumption
  · cases h
theorem xfew {f : List Tm} {n : Nat} (h : fcheckF f (n : Int) = none) : n ≤ 3 := by have := (fcheck_ok h).2.1; omega
end Go.Proofs.YtmjcnpolnknkkaaGreatDoor
