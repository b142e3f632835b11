/- The walks of package power. The walks of package power: signed, Raised, Of. The walks of slices.ContainsFunc at ints, and of package poly's Check and Both. -/
import Derived.Test.YtmjcnpolnknkkaaGreatDoorPSpan
set_option linter.unusedVariables false
set_option linter.unusedSimpArgs false
namespace Go.Proofs.YtmjcnpolnknkkaaGreatDoor
open Go.RowKit

theorem apart_any (lo hi : Int) (w : World) (h1 : M lo) (h2 : M hi) :
    Calls Tryz.prog 210 #[.agg #[.int .i64 lo, .int .i64 hi]] w (RetX int2V (apartF ⟨lo, hi⟩) w) := by
  obtain ⟨_, _⟩ := h1; obtain ⟨_, _⟩ := h2
  cases hz : zeroF ⟨lo, hi⟩ with
  | true =>
    have hr : apartF ⟨lo, hi⟩ = (0, max hi (-lo)) := by simp [apartF, hz]
    rw [hr]
    have Hz := hid hz; clear hz hr
    go_enter Tryz.func210, Tryz.ntmps210
    go_wp2_with ((go_at_call 188; refine (zero_any _ _ _).mono ?_; rintro e w1 ⟨x, hx, rfl, hb1⟩; rw [Hz.out] at hx; subst hx) <;> (obtain ⟨hc1, hf1⟩ := bcell hb1; have _ : w.heap.size < w1.heap.size := (by have hle := Up.le hb1; first | omega | (simp at hle; omega) | (simp at hle; done))))
    all_goals
      go_ret2
      refine RetX.same ?_ (by simp [int2V]; omega)
      (repeat (first | (with_reducible exact Up.refl _) | (with_reducible assumption) | (with_reducible refine Up.alloc ?_ _) | (with_reducible refine Up.drew ?_) | ((with_reducible refine Up.set ?_ ?_ _); rotate_left; focus (first | omega | (simp; done) | (simp; omega))) | (with_reducible refine Up.drewN ?_ _) | (with_reducible refine Up.call ?_ (by with_reducible assumption))))
  | false =>
    have hr : apartF ⟨lo, hi⟩ = (max lo (-hi), max hi (-lo)) := by simp [apartF, hz]
    rw [hr]
    have Hz := hid hz; clear hz hr
    go_enter Tryz.func210, Tryz.ntmps210
    go_wp2_with ((go_at_call 188; refine (zero_any _ _ _).mono ?_; rintro e w1 ⟨x, hx, rfl, hb1⟩; rw [Hz.out] at hx; subst hx) <;> (obtain ⟨hc1, hf1⟩ := bcell hb1; have _ : w.heap.size < w1.heap.size := (by have hle := Up.le hb1; first | omega | (simp at hle; omega) | (simp at hle; done))))
    all_goals
      go_ret2
      refine RetX.same ?_ (by simp [int2V]; omega)
      (repeat (first | (with_reducible exact Up.refl _) | (with_reducible assumption) | (with_reducible refine Up.alloc ?_ _) | (with_reducible refine Up.drew ?_) | ((with_reducible refine Up.set ?_ ?_ _); rotate_left; focus (first | omega | (simp; done) | (simp; omega))) | (with_reducible refine Up.drewN ?_ _) | (with_reducible refine Up.call ?_ (by with_reducible assumption))))
theorem half_any (lo hi : Int) (w : World) (h1 : M lo) (h2 : M hi) :
    Calls Tryz.prog 143 #[.agg #[.int .i64 lo, .int .i64 hi]] w (RetX intV (halfF ⟨lo, hi⟩) w) := by
  obtain ⟨_, _⟩ := h1; obtain ⟨_, _⟩ := h2
  go_enter Tryz.func143, Tryz.ntmps143
  go_wp2_with (go_at_call 114; refine (down_any _ _ _ (by omega) (by omega) (by omega) (by omega)).mono ?_; rintro e w' ⟨rfl, rfl⟩)
  all_goals
    go_ret
    refine RetX.same ?_ rfl
    (repeat (first | (with_reducible exact Up.refl _) | (with_reducible assumption) | (with_reducible refine Up.alloc ?_ _) | (with_reducible refine Up.drew ?_) | ((with_reducible refine Up.set ?_ ?_ _); rotate_left; focus (first | omega | (simp; done) | (simp; omega))) | (with_reducible refine Up.drewN ?_ _) | (with_reducible refine Up.call ?_ (by with_reducible assumption))))

theorem pdn_up (x y : Int) : pdn x y ≤ pup x y ∧ pup x y ≤ pdn x y + 1 := by unfold pdn pup dn up; omega
theorem pdn_nonneg {x y : Int} (hx : 0 ≤ x) (hy : 0 ≤ y) : 0 ≤ pdn x y := by
  have := Int.mul_nonneg hx hy
  unfold pdn dn; omega
theorem pdn_mono {x x' y : Int} (hy : 0 ≤ y) (h : x ≤ x') : pdn x y ≤ pdn x' y := by
  have : x * y ≤ x' * y := Int.mul_le_mul_of_nonneg_right h hy
  unfold pdn dn; omega
theorem again_bd (n : Int) (hn : 0 ≤ n) : ∀ (t : Nat) (lo hi : Int), againF n t = .ok (lo, hi) → 0 ≤ lo ∧ lo ≤ hi ∧ hi ≤ 1000000000
  | 0, lo, hi, h => by simp [againF] at h; omega
  | t + 1, lo, hi, h => by
    unfold againF at h
    split at h
    · cases h
    · rename_i l u hp
      have ih := again_bd n hn t l u hp
      split at h
      · rename_i hM
        simp at h
        obtain ⟨rfl, rfl⟩ := h
        have h1 := pdn_nonneg ih.1 hn
        have h2 := pdn_mono hn ih.2.1
        have h3 := pdn_up u n
        exact ⟨h1, by omega, hM.2⟩
      · cases h
theorem again_err (n : Int) (i : Nat) (e : Nat) (h : againF n i = .error e) : ∀ j, i ≤ j → againF n j = .error e
  | 0, hj => by
    obtain rfl : i = 0 := by omega
    exact h
  | j + 1, hj => by
    rcases Nat.lt_or_eq_of_le hj with h1 | h1
    · unfold againF
      rw [again_err n i e h j (by omega)]
    · rw [← h1]; exact h
theorem again_ok {n : Int} {i : Nat} {lo hi : Int} (h : againF n i = .ok (lo, hi)) (hm : M (pup hi n)) : againF n (i + 1) = .ok (pdn lo n, pup hi n) := by
  unfold againF; rw [h]; simp [hm]
theorem again_no {n : Int} {i : Nat} {lo hi : Int} (h : againF n i = .ok (lo, hi)) (hm : ¬ M (pup hi n)) : againF n (i + 1) = .error 4 := by
  unfold againF; rw [h]; simp [hm]

set_option maxHeartbeats 800000 in
theorem again_any (n : Int) (t : Nat) (w : World) (h1 : 0 ≤ n) (h2 : n ≤ 1000000000) (ht : t ≤ 100) :
    Calls Tryz.prog 220 #[.int .i64 n, .int .i64 t] w (RetX int2R (againF n t) w) := by
  go_enter Tryz.func220, Tryz.ntmps220
  go_wp2
  go_loop [7, 8, 10] (fun a b i => ∃ (k : Nat) (lo hi : Int), k ≤ t ∧ i = .int .i64 k ∧ a = .int .i64 lo ∧ b = .int .i64 hi ∧ Hid (againF n k = .ok (lo, hi))) (fun _ _ i => t - (intOf i).toNat)
  case atStart => exact ⟨0, 1000, 1000, by omega, rfl, rfl, rfl, rfl⟩
  case round =>
    obtain ⟨k, lo, hi, hk, rfl, rfl, rfl, H⟩ := hrel
    obtain ⟨b1, b2, b3⟩ := again_bd n h1 k lo hi H.out
    obtain ⟨m1, m2⟩ := mul_bd lo n ⟨by omega, by omega⟩ ⟨by omega, by omega⟩
    obtain ⟨m3, m4⟩ := mul_bd hi n ⟨by omega, by omega⟩ ⟨by omega, by omega⟩
    by_cases hlt : k < t
    · have hd : decide ((k : Int) < (t : Int)) = true := by simp; omega
      cases hm : mayB (pup hi n) with
      | true =>
        have Hm := hid hm; clear hm
        go_wp2_with (first
                        | (go_at_call 41; refine (uproduct_any _ _ _ (by omega) (by omega)).mono ?_; rintro e w' ⟨rfl, rfl⟩)
                        | ((go_at_call 39; refine (may_any _ _).mono ?_; rintro e w' ⟨rfl, rfl⟩); rw [Hm.out]))
        go_round
        case rel => exact ⟨k + 1, _, _, by omega, by go_num, rfl, rfl, again_ok H.out (mayB_true.1 Hm.out)⟩
        case measure => simp [intOf]; omega
      | false =>
        have Hm := hid hm; clear hm
        go_wp2_with (first
                        | (go_at_call 41; refine (uproduct_any _ _ _ (by omega) (by omega)).mono ?_; rintro e w' ⟨rfl, rfl⟩)
                        | ((go_at_call 39; refine (may_any _ _).mono ?_; rintro e w' ⟨rfl, rfl⟩); rw [Hm.out]))
        go_ret3
        exact RetX.mk (.error 4 : Except Nat (Int × Int)) (Up.refl _) (again_err n (k + 1) 4 (again_no H.out (mayB_false.1 Hm.out)) t (by omega)) rfl
    · obtain rfl : k = t := by omega
      go_wp2
      go_ret3
      exact RetX.mk (.ok (lo, hi) : Except Nat (Int × Int)) (Up.refl _) H.out rfl
end Go.Proofs.YtmjcnpolnknkkaaGreatDoor

namespace Go.Proofs.YtmjcnpolnknkkaaGreatDoor
open Go.RowKit

theorem signed_any (n : Int) (t : Nat) (w : World) (h1 : -1000000000 ≤ n) (h2 : n ≤ 1000000000) (ht : t ≤ 100) :
    Calls Tryz.prog 211 #[.int .i64 n, .int .i64 t] w (RetX int2R (signedF n t) w) := by
  by_cases h0 : 0 ≤ n
  · have hr : signedF n t = againF n t := by simp [signedF, h0]
    rw [hr]
    clear hr
    go_enter Tryz.func211, Tryz.ntmps211
    go_wp2_with (((go_at_call 220; refine (again_any _ _ _ (by omega) (by omega) (by omega)).mono ?_; rintro e w1 ⟨(n1|s), hx, rfl, hb1⟩) <;> (obtain ⟨hc1, hf1⟩ := bcell hb1)))
    all_goals
      go_ret3
      first
        | refine RetX.mk (.error n1 : Except Nat (Int × Int)) ?_ ?_ rfl
        | refine RetX.mk (.ok s : Except Nat (Int × Int)) ?_ ?_ rfl
      · (repeat (first | (with_reducible exact Up.refl _) | (with_reducible assumption) | (with_reducible refine Up.alloc ?_ _) | (with_reducible refine Up.drew ?_) | ((with_reducible refine Up.set ?_ ?_ _); rotate_left; focus (first | omega | (simp; done) | (simp; omega))) | (with_reducible refine Up.drewN ?_ _) | (with_reducible refine Up.call ?_ (by with_reducible assumption))))
      · first | exact hx | rfl
  · cases hr : againF (-n) t with
    | error e =>
      have hr' : signedF n t = .error e := by simp [signedF, h0, hr]
      rw [hr']
      have Hr := hid hr; clear hr hr'
      go_enter Tryz.func211, Tryz.ntmps211
      go_wp2_with (((go_at_call 220; refine (again_any _ _ _ (by omega) (by omega) (by omega)).mono ?_; rintro e w1 ⟨x, hx, rfl, hb1⟩; rw [Hr.out] at hx; subst hx) <;> (obtain ⟨hc1, hf1⟩ := bcell hb1)))
      all_goals
        go_ret3
        refine RetX.mk (.error e : Except Nat (Int × Int)) ?_ rfl rfl
        (repeat (first | (with_reducible exact Up.refl _) | (with_reducible assumption) | (with_reducible refine Up.alloc ?_ _) | (with_reducible refine Up.drew ?_) | ((with_reducible refine Up.set ?_ ?_ _); rotate_left; focus (first | omega | (simp; done) | (simp; omega))) | (with_reducible refine Up.drewN ?_ _) | (with_reducible refine Up.call ?_ (by with_reducible assumption))))
    | ok p =>
      obtain ⟨a, b⟩ := p
      have hr' : signedF n t = .ok (-b, -a) := by simp [signedF, h0, hr]
      rw [hr']
      obtain ⟨b1, b2, b3⟩ := again_bd (-n) (by omega) t a b hr
      have Hr := hid hr; clear hr hr'
      go_enter Tryz.func211, Tryz.ntmps211
      go_wp2_with (((go_at_call 220; refine (again_any _ _ _ (by omega) (by omega) (by omega)).mono ?_; rintro e w1 ⟨x, hx, rfl, hb1⟩; rw [Hr.out] at hx; subst hx) <;> (obtain ⟨hc1, hf1⟩ := bcell hb1)))
      all_goals
        go_ret3
        refine RetX.mk (.ok (-b, -a) : Except Nat (Int × Int)) ?_ rfl rfl
        (repeat (first | (with_reducible exact Up.refl _) | (with_reducible assumption) | (with_reducible refine Up.alloc ?_ _) | (with_reducible refine Up.drew ?_) | ((with_reducible refine Up.set ?_ ?_ _); rotate_left; focus (first | omega | (simp; done) | (simp; omega))) | (with_reducible refine Up.drewN ?_ _) | (with_reducible refine Up.call ?_ (by with_reducible assumption))))
theorem apart_bd (a : Sp) (h1 : M a.lo) (h2 : M a.hi) : M (apartF a).1 ∧ M (apartF a).2 := by
  obtain ⟨_, _⟩ := h1; obtain ⟨_, _⟩ := h2
  unfold apartF M
  dsimp only
  split <;> omega

theorem raised_bad1 {p : Int × Int} {t e : Nat} (h : signedF p.1 t = .error e) : raisedG p t = .error e := by simp [raisedG, h]
theorem raised_bad2 {p : Int × Int} {t e : Nat} {x : Int × Int} (h : signedF p.1 t = .ok x) (h' : signedF p.2 t = .error e) : raisedG p t = .error e := by simp [raisedG, h, h']
theorem raised_ok {p : Int × Int} {t : Nat} {x y : Int × Int} (h : signedF p.1 t = .ok x) (h' : signedF p.2 t = .ok y) : raisedG p t = .ok ⟨x.1, y.2⟩ := by simp [raisedG, h, h']
set_option maxRecDepth 100000 in
set_option maxHeartbeats 1000000 in
theorem raised_any (lo hi : Int) (t : Nat) (w : World) (h1 : M lo) (h2 : M hi) (ht : t ≤ 100) :
    Calls Tryz.prog 191 #[.agg #[.int .i64 lo, .int .i64 hi], .int .i64 t] w (RetX spR (raisedF ⟨lo, hi⟩ t) w) := by
  have Hap := hid (fun W => apart_any lo hi W h1 h2)
  obtain ⟨⟨a1, a2⟩, ⟨a3, a4⟩⟩ := apart_bd ⟨lo, hi⟩ h1 h2
  obtain ⟨_, _⟩ := h1; obtain ⟨_, _⟩ := h2
  by_cases hp : t % 2 = 0
  · have hd : ((t : Int) % 2 == 0) = true := by simp; omega
    have hr : raisedF ⟨lo, hi⟩ t = raisedG (apartF ⟨lo, hi⟩) t := by simp [raisedF, hp]
    rw [hr]
    generalize apartF ⟨lo, hi⟩ = ap at *
    have Hs1 := hid (fun W => signed_any ap.1 t W a1 a2 ht)
    have Hs2 := hid (fun W => signed_any ap.2 t W a3 a4 ht)
    clear hp hr
    go_enter Tryz.func191, Tryz.ntmps191
    go_wp2_with fail
    go_quiet (fail)
    go_wp2_with (first
                        | ((go_at_call 210; refine (Hap.out _).mono ?_; rintro e w1 ⟨x, hx, rfl, hb1⟩; subst hx) <;> (obtain ⟨hc1, hf1⟩ := bcell hb1; obtain ⟨_, _⟩ : w.heap.size < w1.heap.size ∧ w.heap.size + 1 < w1.heap.size := (by have hle := Up.le hb1; first | omega | (simp at hle; omega) | (simp at hle; done))))
                        | ((go_at_call 211; (with_reducible refine (Hs1.out _).mono ?_); rintro e w2 ⟨(n1|s), hx, rfl, hb2⟩) <;> (obtain ⟨hc2, hf2⟩ := bcell hb2; obtain ⟨_, _⟩ : w.heap.size < w2.heap.size ∧ w.heap.size + 1 < w2.heap.size := (by have hle := Up.le hb2; first | omega | (simp at hle; omega) | (simp at hle; done))))
                        | ((go_at_call 211; (with_reducible refine (Hs2.out _).mono ?_); rintro e w3 ⟨(n2|s2), hx2, rfl, hb3⟩) <;> (obtain ⟨hc3, hf3⟩ := bcell hb3; obtain ⟨_, _⟩ : w.heap.size < w3.heap.size ∧ w.heap.size + 1 < w3.heap.size := (by have hle := Up.le hb3; first | omega | (simp at hle; omega) | (simp at hle; done)))))
    all_goals
      (refine bodyPost_res rfl ?_; simp only [results, Tryz.results191]; go_simp; refine resPost_ok ?_)
      first
        | refine RetX.mk (.ok ⟨s.1, s2.2⟩) ?_ ?_ rfl
        | refine RetX.mk (.error n2) ?_ ?_ rfl
        | refine RetX.mk (.error n1) ?_ ?_ rfl
      · (repeat (first | (with_reducible exact Up.refl _) | (with_reducible assumption) | (with_reducible refine Up.alloc ?_ _) | (with_reducible refine Up.drew ?_) | ((with_reducible refine Up.set ?_ ?_ _); rotate_left; focus (first | omega | (simp; done) | (simp; omega))) | (with_reducible refine Up.drewN ?_ _) | (with_reducible refine Up.call ?_ (by with_reducible assumption))))
      · first | exact raised_bad1 hx | exact raised_bad2 hx hx2 | exact raised_ok hx hx2
  · have hd : ((t : Int) % 2 == 0) = false := by simp; omega
    have hr : raisedF ⟨lo, hi⟩ t = raisedG (lo, hi) t := by simp [raisedF, hp]
    rw [hr]
    have Hs1 := hid (fun W => signed_any lo t W (by omega) (by omega) ht)
    have Hs2 := hid (fun W => signed_any hi t W (by omega) (by omega) ht)
    clear hp hr
    go_enter Tryz.func191, Tryz.ntmps191
    go_wp2_with fail
    go_quiet (fail)
    go_wp2_with (first
                        | ((go_at_call 211; (with_reducible refine (Hs1.out _).mono ?_); rintro e w2 ⟨(n1|s), hx, rfl, hb2⟩) <;> (obtain ⟨hc2, hf2⟩ := bcell hb2; obtain ⟨_, _⟩ : w.heap.size < w2.heap.size ∧ w.heap.size + 1 < w2.heap.size := (by have hle := Up.le hb2; first | omega | (simp at hle; omega) | (simp at hle; done))))
                        | ((go_at_call 211; (with_reducible refine (Hs2.out _).mono ?_); rintro e w3 ⟨(n2|s2), hx2, rfl, hb3⟩) <;> (obtain ⟨hc3, hf3⟩ := bcell hb3; obtain ⟨_, _⟩ : w.heap.size < w3.heap.size ∧ w.heap.size + 1 < w3.heap.size := (by have hle := Up.le hb3; first | omega | (simp at hle; omega) | (simp at hle; done)))))
    all_goals
      (refine bodyPost_res rfl ?_; simp only [results, Tryz.results191]; go_simp; refine resPost_ok ?_)
      first
        | refine RetX.mk (.ok ⟨s.1, s2.2⟩) ?_ ?_ rfl
        | refine RetX.mk (.error n2) ?_ ?_ rfl
        | refine RetX.mk (.error n1) ?_ ?_ rfl
      · (repeat (first | (with_reducible exact Up.refl _) | (with_reducible assumption) | (with_reducible refine Up.alloc ?_ _) | (with_reducible refine Up.drew ?_) | ((with_reducible refine Up.set ?_ ?_ _); rotate_left; focus (first | omega | (simp; done) | (simp; omega))) | (with_reducible refine Up.drewN ?_ _) | (with_reducible refine Up.call ?_ (by with_reducible assumption))))
      · first | exact raised_bad1 hx | exact raised_bad2 hx hx2 | exact raised_ok hx hx2
theorem power_bad {a : Sp} {n : Int} {e : Nat} (h : checkF a = some e) : powerF a n = .error e := by simp [powerF, h]
theorem power_any (lo hi n : Int) (w : World) :
    Calls Tryz.prog 177 #[.agg #[.int .i64 lo, .int .i64 hi], .int .i64 n] w (RetX spR (powerF ⟨lo, hi⟩ n) w) := by
  cases ha : checkF ⟨lo, hi⟩ with
  | some e =>
    rw [power_bad ha]
    have Ha := hid ha; clear ha
    go_enter Tryz.func177, Tryz.ntmps177
    go_wp2_with ((go_at_call 106; refine (check_any _ _ _).mono ?_; rintro e w1 ⟨x, hx, rfl, hb1⟩; rw [Ha.out] at hx; subst hx) <;> (obtain ⟨hc1, hf1⟩ := bcell hb1; obtain ⟨_, _⟩ : w.heap.size < w1.heap.size ∧ w.heap.size + 1 < w1.heap.size := (by have hle := Up.le hb1; first | omega | (simp at hle; omega) | (simp at hle; done))))
    all_goals
      (refine bodyPost_res rfl ?_; simp only [results, Tryz.results177]; go_simp; refine resPost_ok ?_)
      refine RetX.mk (.error e : Except Nat Sp) ?_ rfl rfl
      (repeat (first | (with_reducible exact Up.refl _) | (with_reducible assumption) | (with_reducible refine Up.alloc ?_ _) | (with_reducible refine Up.drew ?_) | ((with_reducible refine Up.set ?_ ?_ _); rotate_left; focus (first | omega | (simp; done) | (simp; omega))) | (with_reducible refine Up.drewN ?_ _) | (with_reducible refine Up.call ?_ (by with_reducible assumption))))
  | none =>
    have hrt := checkF_none.1 ha
    by_cases hn : n < 0 ∨ 4 < n
    · have hr : powerF ⟨lo, hi⟩ n = .error 1 := by simp [powerF, ha, hn]
      rw [hr]
      have Ha := hid ha; clear ha hr hrt
      rcases hn with hn | hn
      all_goals
        go_enter Tryz.func177, Tryz.ntmps177
        go_wp2_with ((go_at_call 106; refine (check_any _ _ _).mono ?_; rintro e w1 ⟨x, hx, rfl, hb1⟩; rw [Ha.out] at hx; subst hx) <;> (obtain ⟨hc1, hf1⟩ := bcell hb1; obtain ⟨_, _⟩ : w.heap.size < w1.heap.size ∧ w.heap.size + 1 < w1.heap.size := (by have hle := Up.le hb1; first | omega | (simp at hle; omega) | (simp at hle; done))))
        all_goals
          (refine bodyPost_res rfl ?_; simp only [results, Tryz.results177]; go_simp; refine resPost_ok ?_)
          refine RetX.mk (.error 1 : Except Nat Sp) ?_ rfl rfl
          (repeat (first | (with_reducible exact Up.refl _) | (with_reducible assumption) | (with_reducible refine Up.alloc ?_ _) | (with_reducible refine Up.drew ?_) | ((with_reducible refine Up.set ?_ ?_ _); rotate_left; focus (first | omega | (simp; done) | (simp; omega))) | (with_reducible refine Up.drewN ?_ _) | (with_reducible refine Up.call ?_ (by with_reducible assumption))))
    · obtain ⟨t, rfl⟩ := Int.eq_ofNat_of_zero_le (show 0 ≤ n by omega)
      have hr : powerF ⟨lo, hi⟩ (t : Int) = raisedF ⟨lo, hi⟩ t := by simp only [powerF, ha]; rw [if_neg hn]; simp
      rw [hr]
      have Hp := hid (fun W => raised_any lo hi t W hrt.1 hrt.2.1 (by omega))
      have Ha := hid ha
      have _ : (t : Int) ≤ 4 := by omega
      clear ha hr hrt hn
      go_enter Tryz.func177, Tryz.ntmps177
      go_wp2_with (first
        | ((go_at_call 106; refine (check_any _ _ _).mono ?_; rintro e w1 ⟨x, hx, rfl, hb1⟩; rw [Ha.out] at hx; subst hx) <;> (obtain ⟨hc1, hf1⟩ := bcell hb1; obtain ⟨_, _⟩ : w.heap.size < w1.heap.size ∧ w.heap.size + 1 < w1.heap.size := (by have hle := Up.le hb1; first | omega | (simp at hle; omega) | (simp at hle; done))))
        | ((go_at_call 191; refine (Hp.out _).mono ?_; rintro e w2 ⟨(n1|s), hx, rfl, hb2⟩) <;> (obtain ⟨hc2, hf2⟩ := bcell hb2; obtain ⟨_, _⟩ : w.heap.size < w2.heap.size ∧ w.heap.size + 1 < w2.heap.size := (by have hle := Up.le hb2; first | omega | (simp at hle; omega) | (simp at hle; done)))))
      all_goals
        (refine bodyPost_res rfl ?_; simp only [results, Tryz.results177]; go_simp; refine resPost_ok ?_)
        first
          | refine RetX.mk (.ok s) ?_ ?_ rfl
          | refine RetX.mk (.error n1) ?_ ?_ rfl
        · (repeat (first | (with_reducible exact Up.refl _) | (with_reducible assumption) | (with_reducible refine Up.alloc ?_ _) | (with_reducible refine Up.drew ?_) | ((with_reducible refine Up.set ?_ ?_ _); rotate_left; focus (first | omega | (simp; done) | (simp; omega))) | (with_reducible refine Up.drewN ?_ _) | (with_reducible refine Up.call ?_ (by with_reducible assumption))))
        · first | exact hx | rfl
end Go.Proofs.YtmjcnpolnknkkaaGreatDoor

namespace Go.Proofs.YtmjcnpolnknkkaaGreatDoor
open Go.RowKit

def IdxP (g : Int → Bool) (l : List Int) (w : World) (e : Ending) (w' : World) : Prop := ∃ i : Int, e = .returned (.int .i64 i) ∧ (0 ≤ i ↔ l.any g = true) ∧ w = w'
theorem any_take (g : Int → Bool) (l : List Int) (k : Nat) (h : k < l.length) : (l.take (k + 1)).any g = ((l.take k).any g || g (l[k]?.getD 0)) := by
  rw [take_snoc' l k h]; simp
theorem any_yes (g : Int → Bool) (l : List Int) (k : Nat) (h : k < l.length) (hg : g (l[k]?.getD 0) = true) : l.any g = true := by
  rw [List.any_eq_true]
  refine ⟨l[k], List.getElem_mem h, ?_⟩
  simpa [h] using hg
theorem idx_neg {i : Int} {b : Bool} (h : 0 ≤ i ↔ b = true) (hb : b = false) : i < 0 := by
  rcases Int.lt_or_le i 0 with h1 | h1
  · exact h1
  · rw [h.1 h1] at hb; cases hb
set_option maxHeartbeats 800000 in
theorem indexFunc_any (K : Nat) (hen : ∀ args w, (callFunc K args).run Tryz.prog w = .ok (.enter K args) w) (g : Int → Bool) (A : Option Addr) (l : List Int) (c : Nat) (w : World) (hl : l.length ≤ 1000) (hr : RdI w A l)
    (hg : ∀ n W, n ∈ l → Calls Tryz.prog K #[.int .i64 n] W fun e W' => e = .returned (.bool (g n)) ∧ W = W') :
    Calls Tryz.prog 205 #[.slice A l.length c, .func (.func K) #[] #[]] w (IdxP g l w) := by
  have Hg := hid hg; have Hr := hid hr; clear hg hr
  go_enter Tryz.func205, Tryz.ntmps205
  go_wp2
  go_loop [8] (fun i => ∃ k : Nat, k ≤ l.length ∧ i = .int .i64 k ∧ Hid ((l.take k).any g = false)) (fun i => l.length - (intOf i).toNat)
  case atStart => exact ⟨0, by omega, rfl, by simp [Hid]⟩
  case round =>
    obtain ⟨k, hk, rfl, H⟩ := hrel
    by_cases hlt : k < l.length
    · have hd : decide ((k : Int) < (l.length : Int)) = true := by simp; omega
      obtain ⟨b, o, rfl, hb, hc⟩ := Hr.out (by intro h; simp [h] at hlt)
      have hck := hc k hlt
      have hmem : l[k]?.getD 0 ∈ l := by simp [hlt]
      have Hm := hid hmem
      clear hc hmem
      generalize hn : l[k]?.getD 0 = n at *
      have Hn := hid hn; clear hn
      cases hgn : g n with
      | true =>
        have Hgn := hid hgn; clear hgn
        go_wp2_with (refine (Hg.out n _ Hm.out).mono ?_; rintro e w' ⟨rfl, rfl⟩; rw [Hgn.out])
        go_ret
        exact ⟨k, rfl, ⟨fun _ => any_yes g l k hlt (by rw [Hn.out, Hgn.out]), fun _ => by omega⟩, rfl⟩
      | false =>
        have Hgn := hid hgn; clear hgn
        go_wp2_with (refine (Hg.out n _ Hm.out).mono ?_; rintro e w' ⟨rfl, rfl⟩; rw [Hgn.out])
        go_round
        case rel => exact ⟨k + 1, by omega, by go_num, by rw [any_take g l k hlt, H.out, Hn.out, Hgn.out]; rfl⟩
        case measure => simp [intOf]; omega
    · obtain rfl : k = l.length := by omega
      go_wp2
      go_ret
      exact ⟨-1, rfl, ⟨fun h => absurd h (by omega), fun h => by have := H.out; rw [List.take_length] at this; rw [this] at h; cases h⟩, rfl⟩
theorem containsFunc_any (K : Nat) (hen : ∀ args w, (callFunc K args).run Tryz.prog w = .ok (.enter K args) w) (g : Int → Bool) (A : Option Addr) (l : List Int) (c : Nat) (w : World) (hl : l.length ≤ 1000) (hr : RdI w A l)
    (hg : ∀ n W, n ∈ l → Calls Tryz.prog K #[.int .i64 n] W fun e W' => e = .returned (.bool (g n)) ∧ W = W') :
    Calls Tryz.prog 183 #[.slice A l.length c, .func (.func K) #[] #[]] w fun e w' => e = .returned (.bool (l.any g)) ∧ w = w' := by
  have Hi := hid (fun W hW => indexFunc_any K hen g A l c W hl hW hg)
  clear hg
  cases ha : l.any g with
  | true =>
    have Ha := hid ha; clear ha
    go_enter Tryz.func183, Tryz.ntmps183
    go_wp2_with (go_at_call 205; refine (Hi.out _ hr).mono ?_; rintro e w' ⟨i, rfl, hi, rfl⟩; have hi1 := hi.2 Ha.out; clear hi)
    go_ret
    exact ⟨rfl, rfl⟩
  | false =>
    have Ha := hid ha; clear ha
    go_enter Tryz.func183, Tryz.ntmps183
    go_wp2_with (go_at_call 205; refine (Hi.out _ hr).mono ?_; rintro e w' ⟨i, rfl, hi, rfl⟩; have hi1 := decide_eq_false (Int.not_le.2 (idx_neg hi Ha.out)); clear hi)
    go_ret
    exact ⟨rfl, rfl⟩

theorem enPcheck1 : ∀ args w, (callFunc 184 args).run Tryz.prog w = .ok (.enter 184 args) w := enters_of Tryz.func184 (by kernel_rfl) rfl
theorem pcheck1_any (n : Int) (w : World) :
    Calls Tryz.prog 184 #[.int .i64 n] w fun e w' => e = .returned (.bool (!mayB n)) ∧ w = w' := by
  go_enter Tryz.func184, Tryz.ntmps184
  go_wp2_with (go_at_call 39; refine (may_any _ _).mono ?_; rintro e w' ⟨rfl, rfl⟩)
  go_ret
  exact ⟨rfl, rfl⟩
theorem pcheck_all {p : List Int} (h0 : 0 < p.length) (h5 : p.length ≤ 5) : pcheckF p = if p.any (fun n => !mayB n) = true then some 1 else none := by
  unfold pcheckF
  rw [if_neg (by omega), if_neg (by omega)]
  by_cases h : ∀ n ∈ p, M n
  · rw [if_pos h, if_neg]
    simp only [List.any_eq_true, not_exists]
    rintro n ⟨hn, hm⟩
    simp [mayB_true.2 (h n hn)] at hm
  · rw [if_neg h, if_pos]
    simp only [List.any_eq_true]
    apply Classical.byContradiction
    intro hc
    apply h
    intro n hn
    apply mayB_true.1
    cases hm : mayB n with
    | true => rfl
    | false => exact absurd ⟨n, hn, by simp [hm]⟩ hc
theorem pcheck_any (A : Option Addr) (p : List Int) (c : Nat) (w : World) (hr : RdI w A p) :
    Calls Tryz.prog 141 #[.slice A p.length c] w (RetX errV (pcheckF p) w) := by
  by_cases h0 : p.length = 0
  · have hrr : pcheckF p = some 5 := by simp [pcheckF, h0]
    rw [hrr, h0]
    clear hrr
    go_enter Tryz.func141, Tryz.ntmps141
    go_wp2
    go_ret
    exact RetX.mk (some 5) (Up.refl _) rfl rfl
  · by_cases h5 : 5 < p.length
    · have hrr : pcheckF p = some 4 := by simp [pcheckF, h0, h5]
      rw [hrr]
      clear hrr
      have hd : ((p.length : Int) == 0) = false := beq_eq_false_iff_ne.2 (by omega)
      go_enter Tryz.func141, Tryz.ntmps141
      go_wp2
      go_ret
      exact RetX.mk (some 4) (Up.refl _) rfl rfl
    · have hall := pcheck_all (p := p) (by omega) (by omega)
      have hd : ((p.length : Int) == 0) = false := beq_eq_false_iff_ne.2 (by omega)
      have _ : p.length ≤ 5 := by omega
      have Hc := hid (fun W hW => containsFunc_any 184 enPcheck1 (fun n => !mayB n) A p c W (by omega) hW (fun n W _ => pcheck1_any n W))
      clear h0 h5
      cases ha : p.any (fun n => !mayB n) with
      | true =>
        rw [ha] at hall
        rw [hall]
        have Ha := hid ha; clear ha hall
        go_enter Tryz.func141, Tryz.ntmps141
        go_wp2_with (go_at_call 183; refine (Hc.out _ hr).mono ?_; rintro e w' ⟨rfl, rfl⟩; rw [Ha.out])
        go_ret
        exact RetX.mk (some 1) (Up.refl _) rfl rfl
      | false =>
        rw [ha] at hall
        rw [hall]
        have Ha := hid ha; clear ha hall
        go_enter Tryz.func141, Tryz.ntmps141
        go_wp2_with (go_at_call 183; refine (Hc.out _ hr).mono ?_; rintro e w' ⟨rfl, rfl⟩; rw [Ha.out])
        go_ret
        exact RetX.mk none (Up.refl _) rfl rfl
theorem pboth_any (A : Option Addr) (p : List Int) (c : Nat) (lo hi : Int) (w : World) (hr : RdI w A p) :
    Calls Tryz.prog 101 #[.slice A p.length c, .agg #[.int .i64 lo, .int .i64 hi]] w (RetX errV (pbothF p ⟨lo, hi⟩) w) := by
  have Hr := hid hr; clear hr
  cases ha : pcheckF p with
  | some n =>
    have hrr : pbothF p ⟨lo, hi⟩ = some n := by simp [pbothF, ha]
    rw [hrr]
    have Ha := hid ha; clear ha hrr
    go_enter Tryz.func101, Tryz.ntmps101
    go_wp2_with ((go_at_call 141; refine (pcheck_any _ _ _ _ (Hr.out.up (by (repeat (first | (with_reducible exact Up.refl _) | (with_reducible assumption) | (with_reducible refine Up.alloc ?_ _) | (with_reducible refine Up.drew ?_) | ((with_reducible refine Up.set ?_ ?_ _); rotate_left; focus (first | omega | (simp; done) | (simp; omega))) | (with_reducible refine Up.drewN ?_ _) | (with_reducible refine Up.call ?_ (by with_reducible assumption))))))).mono ?_; rintro e w1 ⟨x, hx, rfl, hb1⟩; rw [Ha.out] at hx; subst hx) <;> (obtain ⟨hc1, hf1⟩ := bcell hb1; have _ : w.heap.size < w1.heap.size := (by have hle := Up.le hb1; first | omega | (simp at hle; omega) | (simp at hle; done))))
    go_ret
    refine RetX.mk (some n) ?_ rfl rfl
    (repeat (first | (with_reducible exact Up.refl _) | (with_reducible assumption) | (with_reducible refine Up.alloc ?_ _) | (with_reducible refine Up.drew ?_) | ((with_reducible refine Up.set ?_ ?_ _); rotate_left; focus (first | omega | (simp; done) | (simp; omega))) | (with_reducible refine Up.drewN ?_ _) | (with_reducible refine Up.call ?_ (by with_reducible assumption))))
  | none =>
    have hrr : pbothF p ⟨lo, hi⟩ = checkF ⟨lo, hi⟩ := by simp [pbothF, ha]
    rw [hrr]
    have Ha := hid ha; clear ha hrr
    go_enter Tryz.func101, Tryz.ntmps101
    go_wp2_with (first
                        | ((go_at_call 141; refine (pcheck_any _ _ _ _ (Hr.out.up (by (repeat (first | (with_reducible exact Up.refl _) | (with_reducible assumption) | (with_reducible refine Up.alloc ?_ _) | (with_reducible refine Up.drew ?_) | ((with_reducible refine Up.set ?_ ?_ _); rotate_left; focus (first | omega | (simp; done) | (simp; omega))) | (with_reducible refine Up.drewN ?_ _) | (with_reducible refine Up.call ?_ (by with_reducible assumption))))))).mono ?_; rintro e w1 ⟨x, hx, rfl, hb1⟩; rw [Ha.out] at hx; subst hx) <;> (obtain ⟨hc1, hf1⟩ := bcell hb1; have _ : w.heap.size < w1.heap.size := (by have hle := Up.le hb1; first | omega | (simp at hle; omega) | (simp at hle; done))))
                        | ((go_at_call 106; refine (check_any _ _ _).mono ?_; rintro e w2 ⟨x, hx, rfl, hb2⟩) <;> (obtain ⟨hc2, hf2⟩ := bcell hb2)))
    all_goals
      go_ret
      refine RetX.mk x ?_ hx rfl
      (repeat (first | (with_reducible exact Up.refl _) | (with_reducible assumption) | (with_reducible refine Up.alloc ?_ _) | (with_reducible refine Up.drew ?_) | ((with_reducible refine Up.set ?_ ?_ _); rotate_left; focus (first | omega | (simp; done) | (simp; omega))) | (with_reducible refine Up.drewN ?_ _) | (with_reducible refine Up.call ?_ (by with_reducible assumption))))
end Go.Proofs.YtmjcnpolnknkkaaGreatDoor
