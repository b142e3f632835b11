/- The walks of package power. -/
import Derived.Test.YtafhcppigpjcpaaDoorSpane
set_option linter.unusedVariables false
set_option linter.unusedSimpArgs false
namespace Go.Proofs.YtafhcppigpjcpaaDoor
open Go.RowKit

theorem apart_any (lo hi : Int) (w : World) (h1 : M lo) (h2 : M hi) :
    Calls Tryd.prog 162 #[.agg #[.int .i64 lo, .int .i64 hi]] w (RetX int2V (apartF ⟨lo, hi⟩) w) := by
  obtain ⟨_, _⟩ := h1; obtain ⟨_, _⟩ := h2
  cases hz : zeroF ⟨lo, hi⟩ with
  | true =>
    have hr : apartF ⟨lo, hi⟩ = (0, max hi (-lo)) := by simp [apartF, hz]
    rw [hr]
    have Hz := hid hz; clear hz hr
    go_enter Tryd.func162, Tryd.ntmps162
    go_wp2_with ((go_at_call 130; refine (zero_any _ _ _).mono ?_; rintro e w1 ⟨x, hx, rfl, hb1⟩; rw [Hz.out] at hx; subst hx) <;> (obtain ⟨hc1, hf1⟩ := bcell hb1; have _ : w.heap.size < w1.heap.size := (by have hle := Up.le hb1; first | omega | (simp at hle; omega) | (simp at hle; done))))
    all_goals
      go_ret2
      refine RetX.same ?_ (by simp [int2V]; omega)
      (repeat (first | (with_reducible exact Up.refl _) | (with_reducible assumption) | (with_reducible refine Up.alloc ?_ _) | (with_reducible refine Up.drew ?_) | ((with_reducible refine Up.set ?_ ?_ _); rotate_left; focus (first | omega | (simp; done) | (simp; omega))) | (with_reducible refine Up.drewN ?_ _) | (with_reducible refine Up.call ?_ (by with_reducible assumption))))
  | false =>
    have hr : apartF ⟨lo, hi⟩ = (max lo (-hi), max hi (-lo)) := by simp [apartF, hz]
    rw [hr]
    have Hz := hid hz; clear hz hr
    go_enter Tryd.func162, Tryd.ntmps162
    go_wp2_with ((go_at_call 130; refine (zero_any _ _ _).mono ?_; rintro e w1 ⟨x, hx, rfl, hb1⟩; rw [Hz.out] at hx; subst hx) <;> (obtain ⟨hc1, hf1⟩ := bcell hb1; have _ : w.heap.size < w1.heap.size := (by have hle := Up.le hb1; first | omega | (simp at hle; omega) | (simp at hle; done))))
    all_goals
      go_ret2
      refine RetX.same ?_ (by simp [int2V]; omega)
      (repeat (first | (with_reducible exact Up.refl _) | (with_reducible assumption) | (with_reducible refine Up.alloc ?_ _) | (with_reducible refine Up.drew ?_) | ((with_reducible refine Up.set ?_ ?_ _); rotate_left; focus (first | omega | (simp; done) | (simp; omega))) | (with_reducible refine Up.drewN ?_ _) | (with_reducible refine Up.call ?_ (by with_reducible assumption))))
theorem half_any (lo hi : Int) (w : World) (h1 : M lo) (h2 : M hi) :
    Calls Tryd.prog 142 #[.agg #[.int .i64 lo, .int .i64 hi]] w (RetX intV (halfF ⟨lo, hi⟩) w) := by
  obtain ⟨_, _⟩ := h1; obtain ⟨_, _⟩ := h2
  go_enter Tryd.func142, Tryd.ntmps142
  go_wp2_with (go_at_call 153; refine (down_any _ _ _ (by omega) (by omega) (by omega) (by omega)).mono ?_; rintro e w' ⟨rfl, rfl⟩)
  all_goals
    go_ret
    refine RetX.same ?_ rfl
    (repeat (first | (with_reducible exact Up.refl _) | (with_reducible assumption) | (with_reducible refine Up.alloc ?_ _) | (with_reducible refine Up.drew ?_) | ((with_reducible refine Up.set ?_ ?_ _); rotate_left; focus (first | omega | (simp; done) | (simp; omega))) | (with_reducible refine Up.drewN ?_ _) | (with_reducible refine Up.call ?_ (by with_reducible assumption))))

theorem pdn_up (x y : Int) : pdn x y ≤ pup x y ∧ pup x y ≤ pdn x y + 1 := by unfold pdn pup dn up; omega
theorem pdn_nonneg {x y : Int} (hx : 0 ≤ x) (hy : 0 ≤ y) : 0 ≤ pdn x y := by
  have := Int.mul_nonneg hx hy
  unfold pdn dn; omega
theorem pdn_mono {x x' y : Int} (hy : 0 ≤ y) (h : x ≤ x') : pdn x y ≤ pdn x' y := by
  have : x * y ≤ x' * y := Int.mul_le_mul_of_nonneg_right h hy
  unfold pdn dn; omega
theorem pup_mono {x x' y : Int} (hy : 0 ≤ y) (h : x ≤ x') : pup x y ≤ pup x' y := by
  have : x * y ≤ x' * y := Int.mul_le_mul_of_nonneg_right h hy
  unfold pup up; omega
theorem again_bd (n : Int) (hn : 0 ≤ n) : ∀ (t : Nat) (lo hi : Int), againF n t = .ok (lo, hi) → 0 ≤ lo ∧ lo ≤ hi ∧ hi ≤ 1000000000
  | 0, lo, hi, h => by simp [againF] at h; omega
  | t + 1, lo, hi, h => by
    unfold againF at h
    split at h
    · cases h
    · rename_i l u hp
      have ih := again_bd n hn t l u hp
      split at h
      · rename_i hM
        simp at h
        obtain ⟨rfl, rfl⟩ := h
        have h1 := pdn_nonneg ih.1 hn
        have h2 := pdn_mono hn ih.2.1
        have h3 := pdn_up u n
        exact ⟨h1, by omega, hM.2⟩
      · cases h
theorem again_err (n : Int) (i : Nat) (e : Nat) (h : againF n i = .error e) : ∀ j, i ≤ j → againF n j = .error e
  | 0, hj => by
    obtain rfl : i = 0 := by omega
    exact h
  | j + 1, hj => by
    rcases Nat.lt_or_eq_of_le hj with h1 | h1
    · unfold againF
      rw [again_err n i e h j (by omega)]
    · rw [← h1]; exact h
theorem again_ok {n : Int} {i : Nat} {lo hi : Int} (h : againF n i = .ok (lo, hi)) (hm : M (pup hi n)) : againF n (i + 1) = .ok (pdn lo n, pup hi n) := by
  unfold againF; rw [h]; simp [hm]
theorem again_no {n : Int} {i : Nat} {lo hi : Int} (h : againF n i = .ok (lo, hi)) (hm : ¬ M (pup hi n)) : againF n (i + 1) = .error 4 := by
  unfold againF; rw [h]; simp [hm]

set_option maxHeartbeats 800000 in
theorem again_any (n : Int) (t : Nat) (w : World) (h1 : 0 ≤ n) (h2 : n ≤ 1000000000) (ht : t ≤ 100) :
    Calls Tryd.prog 167 #[.int .i64 n, .int .i64 t] w (RetX int2R (againF n t) w) := by
  go_enter Tryd.func167, Tryd.ntmps167
  go_wp2
  go_loop [7, 8, 10] (fun a b i => ∃ (k : Nat) (lo hi : Int), k ≤ t ∧ i = .int .i64 k ∧ a = .int .i64 lo ∧ b = .int .i64 hi ∧ Hid (againF n k = .ok (lo, hi))) (fun _ _ i => t - (intOf i).toNat)
  case atStart => exact ⟨0, 1000, 1000, by omega, rfl, rfl, rfl, rfl⟩
  case round =>
    obtain ⟨k, lo, hi, hk, rfl, rfl, rfl, H⟩ := hrel
    obtain ⟨b1, b2, b3⟩ := again_bd n h1 k lo hi H.out
    obtain ⟨m1, m2⟩ := mul_bd lo n ⟨by omega, by omega⟩ ⟨by omega, by omega⟩
    obtain ⟨m3, m4⟩ := mul_bd hi n ⟨by omega, by omega⟩ ⟨by omega, by omega⟩
    by_cases hlt : k < t
    · have hd : decide ((k : Int) < (t : Int)) = true := by simp; omega
      cases hm : mayB (pup hi n) with
      | true =>
        have Hm := hid hm; clear hm
        go_wp2_with (first
                        | (go_at_call 137; refine (uproduct_any _ _ _ (by omega) (by omega)).mono ?_; rintro e w' ⟨rfl, rfl⟩)
                        | ((go_at_call 95; refine (may_any _ _).mono ?_; rintro e w' ⟨rfl, rfl⟩); rw [Hm.out]))
        go_round
        case rel => exact ⟨k + 1, _, _, by omega, by go_num, rfl, rfl, again_ok H.out (mayB_true.1 Hm.out)⟩
        case measure => simp [intOf]; omega
      | false =>
        have Hm := hid hm; clear hm
        go_wp2_with (first
                        | (go_at_call 137; refine (uproduct_any _ _ _ (by omega) (by omega)).mono ?_; rintro e w' ⟨rfl, rfl⟩)
                        | ((go_at_call 95; refine (may_any _ _).mono ?_; rintro e w' ⟨rfl, rfl⟩); rw [Hm.out]))
        go_ret3
        exact RetX.mk (.error 4 : Except Nat (Int × Int)) (Up.refl _) (again_err n (k + 1) 4 (again_no H.out (mayB_false.1 Hm.out)) t (by omega)) rfl
    · obtain rfl : k = t := by omega
      go_wp2
      go_ret3
      exact RetX.mk (.ok (lo, hi) : Except Nat (Int × Int)) (Up.refl _) H.out rfl
end Go.Proofs.YtafhcppigpjcpaaDoor
