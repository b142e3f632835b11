/- The walks of the reference's powers: Far, Middle, again, Power; and its Times, By. The walk of the reference's Power, odd times; and Power whole. -/
import Derived.Test.YtmjcnpolnknkkaaGreatDoorPRfs
import Derived.Test.YtmjcnpolnknkkaaGreatDoorPPower
import Derived.Test.YtmjcnpolnknkkaaGreatDoorPTight
import Derived.Test.YtmjcnpolnknkkaaGreatDoorPSpan
set_option linter.unusedVariables false
set_option linter.unusedSimpArgs false
namespace Go.Proofs.YtmjcnpolnknkkaaGreatDoor
open Go.RowKit

theorem rfar_any (lo hi : Int) (w : World) (h : Rt ⟨lo, hi⟩) :
    Calls Tryz.prog 94 #[.agg #[.int .i64 lo, .int .i64 hi]] w (RetX int2V (apartF ⟨lo, hi⟩) w) := by
  obtain ⟨⟨_, _⟩, ⟨_, _⟩, h3⟩ := h
  dsimp only at *
  have Hz := hid (show zeroF ⟨lo, hi⟩ = (decide (lo ≤ 0) && decide (0 ≤ hi)) from rfl)
  have Ha := hid (show apartF ⟨lo, hi⟩ = (if zeroF ⟨lo, hi⟩ = true then 0 else max lo (-hi), max hi (-lo)) from rfl)
  rcases (show lo < 0 ∨ (lo ≤ 0 ∧ 0 ≤ lo) ∨ 0 < lo by omega) with q1 | ⟨q1, q1'⟩ | q1 <;> rcases Int.lt_or_le hi 0 with q2 | q2
  all_goals
    first
      | (exfalso; omega)
      | (have hz : zeroF ⟨lo, hi⟩ = true := by rw [Hz.out]; simp; omega
         have Hw := hid hz
         have Hr := hid (show apartF ⟨lo, hi⟩ = (0, max hi (-lo)) by rw [Ha.out, if_pos hz])
         have Hmx := hid (show ∀ n, (n = hi ∧ -lo ≤ hi) ∨ (n = -lo ∧ hi ≤ -lo) → max hi (-lo) = n from fun n h => by omega)
         clear hz Hz Ha
         rcases Int.lt_or_le hi (-lo) with q3 | q3
         all_goals
           first
             | (exfalso; omega)
             | (go_enter Tryz.func94, Tryz.ntmps94
                go_wp2_with ((go_at_call 43; refine (rzero_any _ _ _).mono ?_; rintro e w1 ⟨x, hx, rfl, hb1⟩; rw [Hw.out] at hx; subst hx) <;> (obtain ⟨hc1, hf1⟩ := bcell hb1; have _ : w.heap.size < w1.heap.size := (by have hle := Up.le hb1; first | omega | (simp at hle; omega) | (simp at hle; done))))
                all_goals
                  go_ret2
                  refine RetX.mk _ ?_ Hr.out ?_
                  · (repeat (first | (with_reducible exact Up.refl _) | (with_reducible assumption) | (with_reducible refine Up.alloc ?_ _) | (with_reducible refine Up.drew ?_) | ((with_reducible refine Up.set ?_ ?_ _); rotate_left; focus (first | omega | (simp; done) | (simp; omega))) | (with_reducible refine Up.drewN ?_ _) | (with_reducible refine Up.call ?_ (by with_reducible assumption))))
                  · first
                      | (rw [Hmx.out hi (.inl ⟨rfl, by omega⟩)]; rfl)
                      | (rw [Hmx.out (-lo) (.inr ⟨rfl, by omega⟩)]; rfl)
                      | (simp [int2V]; omega)))
      | (have hz : zeroF ⟨lo, hi⟩ = false := by rw [Hz.out]; simp; omega
         have Hw := hid hz
         have Hr := hid (show apartF ⟨lo, hi⟩ = (max lo (-hi), max hi (-lo)) by rw [Ha.out, if_neg (by rw [hz]; decide)])
         clear hz Hz Ha
         go_enter Tryz.func94, Tryz.ntmps94
         go_wp2_with ((go_at_call 43; refine (rzero_any _ _ _).mono ?_; rintro e w1 ⟨x, hx, rfl, hb1⟩; rw [Hw.out] at hx; subst hx) <;> (obtain ⟨hc1, hf1⟩ := bcell hb1; have _ : w.heap.size < w1.heap.size := (by have hle := Up.le hb1; first | omega | (simp at hle; omega) | (simp at hle; done))))
         all_goals
           go_ret2
           refine RetX.mk _ ?_ Hr.out (by simp [int2V]; omega)
           (repeat (first | (with_reducible exact Up.refl _) | (with_reducible assumption) | (with_reducible refine Up.alloc ?_ _) | (with_reducible refine Up.drew ?_) | ((with_reducible refine Up.set ?_ ?_ _); rotate_left; focus (first | omega | (simp; done) | (simp; omega))) | (with_reducible refine Up.drewN ?_ _) | (with_reducible refine Up.call ?_ (by with_reducible assumption)))))
theorem rmiddle_any (lo hi : Int) (w : World) (h1 : M lo) (h2 : M hi) :
    Calls Tryz.prog 100 #[.agg #[.int .i64 lo, .int .i64 hi]] w (RetX intV (halfF ⟨lo, hi⟩) w) := by
  obtain ⟨_, _⟩ := h1; obtain ⟨_, _⟩ := h2
  go_enter Tryz.func100, Tryz.ntmps100
  go_wp2_with (go_at_call 37; refine (rfloor_any _ _ _ (by omega) (by omega) (by omega) (by omega)).mono ?_; rintro e w' ⟨rfl, rfl⟩)
  all_goals
    go_ret
    refine RetX.same ?_ rfl
    (repeat (first | (with_reducible exact Up.refl _) | (with_reducible assumption) | (with_reducible refine Up.alloc ?_ _) | (with_reducible refine Up.drew ?_) | ((with_reducible refine Up.set ?_ ?_ _); rotate_left; focus (first | omega | (simp; done) | (simp; omega))) | (with_reducible refine Up.drewN ?_ _) | (with_reducible refine Up.call ?_ (by with_reducible assumption))))
/-- both numbers, and the fault -/
def int2N : Except Nat (Int × Int) → Value
  | .ok s => .tuple #[.int .i64 s.1, .int .i64 s.2, .int .i64 0]
  | .error n => .tuple #[.int .i64 0, .int .i64 0, .int .i64 n]
theorem int2N_ok (s : Int × Int) : int2N (.ok s) = .tuple #[.int .i64 s.1, .int .i64 s.2, .int .i64 0] := rfl
theorem int2N_error (n : Nat) : int2N (.error n) = .tuple #[.int .i64 0, .int .i64 0, .int .i64 n] := rfl
attribute [go_sem] int2N_ok int2N_error
theorem again_four {n : Int} : ∀ (t : Nat) {e : Nat}, againF n t = .error e → e = 4
  | 0, e, h => by cases h
  | t + 1, e, h => by
    unfold againF at h
    split at h
    · rename_i e' hp
      injection h with h
      subst h
      exact again_four t hp
    · split at h
      · cases h
      · injection h with h; exact h.symm
set_option maxHeartbeats 800000 in
theorem ragain_any (n : Int) (t : Nat) (w : World) (h1 : 0 ≤ n) (h2 : n ≤ 1000000000) (ht : t ≤ 100) :
    Calls Tryz.prog 95 #[.int .i64 n, .int .i64 t] w (RetX int2N (againF n t) w) := by
  go_enter Tryz.func95, Tryz.ntmps95
  go_wp2
  go_loop [7, 8, 9] (fun a b i => ∃ (k : Nat) (lo hi : Int), k ≤ t ∧ i = .int .i64 k ∧ a = .int .i64 lo ∧ b = .int .i64 hi ∧ Hid (againF n k = .ok (lo, hi))) (fun _ _ i => t - (intOf i).toNat)
  case atStart => exact ⟨0, 1000, 1000, by omega, rfl, rfl, rfl, rfl⟩
  case round =>
    obtain ⟨k, lo, hi, hk, rfl, rfl, rfl, H⟩ := hrel
    obtain ⟨b1, b2, b3⟩ := again_bd n h1 k lo hi H.out
    obtain ⟨m1, m2⟩ := mul_bd lo n ⟨by omega, by omega⟩ ⟨by omega, by omega⟩
    obtain ⟨m3, m4⟩ := mul_bd hi n ⟨by omega, by omega⟩ ⟨by omega, by omega⟩
    have hp1 : dn (lo * n) 1000 = pdn lo n := rfl
    have hp2 : up (hi * n) 1000 = pup hi n := rfl
    by_cases hlt : k < t
    · have hd : decide ((k : Int) < (t : Int)) = true := by simp; omega
      cases hm : mayB (pup hi n) with
      | true =>
        have Hm := hid hm; clear hm
        go_wp2_with (first
          | ((go_at_call 37; refine (rfloor_any _ _ _ (by omega) (by omega) (by omega) (by omega)).mono ?_; rintro e w' ⟨rfl, rfl⟩); rw [hp1])
          | ((go_at_call 38; refine (rceil_any _ _ _ (by omega) (by omega) (by omega) (by omega)).mono ?_; rintro e w' ⟨rfl, rfl⟩); rw [hp2])
          | ((go_at_call 8; refine (rmay_any _ _).mono ?_; rintro e w' ⟨rfl, rfl⟩); rw [Hm.out]))
        go_round
        case rel => exact ⟨k + 1, _, _, by omega, by go_num, rfl, rfl, again_ok H.out (mayB_true.1 Hm.out)⟩
        case measure => simp [intOf]; omega
      | false =>
        have Hm := hid hm; clear hm
        go_wp2_with (first
          | ((go_at_call 37; refine (rfloor_any _ _ _ (by omega) (by omega) (by omega) (by omega)).mono ?_; rintro e w' ⟨rfl, rfl⟩); rw [hp1])
          | ((go_at_call 38; refine (rceil_any _ _ _ (by omega) (by omega) (by omega) (by omega)).mono ?_; rintro e w' ⟨rfl, rfl⟩); rw [hp2])
          | ((go_at_call 8; refine (rmay_any _ _).mono ?_; rintro e w' ⟨rfl, rfl⟩); rw [Hm.out]))
        go_ret3
        exact RetX.mk (.error 4 : Except Nat (Int × Int)) (Up.refl _) (again_err n (k + 1) 4 (again_no H.out (mayB_false.1 Hm.out)) t (by omega)) rfl
    · obtain rfl : k = t := by omega
      go_wp2
      go_ret3
      exact RetX.mk (.ok (lo, hi) : Except Nat (Int × Int)) (Up.refl _) H.out rfl
theorem signed_pos {n : Int} {t : Nat} (h : 0 ≤ n) : signedF n t = againF n t := by unfold signedF; rw [if_pos h]
theorem signed_neg {n : Int} {t : Nat} (h : n < 0) : signedF n t = match againF (-n) t with
    | .error e => .error e
    | .ok (lo, hi) => .ok (-hi, -lo) := by
  unfold signedF
  rw [if_neg (by omega)]
  cases againF (-n) t <;> rfl
theorem raised_four {a : Sp} {t e : Nat} (h : raisedF a t = .error e) : e = 4 := by
  have sg : ∀ (n : Int) (e : Nat), signedF n t = .error e → e = 4 := by
    intro n e hn
    unfold signedF at hn
    split at hn
    · exact again_four t hn
    · split at hn
      · rename_i e' hq
        injection hn with hn
        subst hn
        exact again_four t hq
      · cases hn
  unfold raisedF raisedG at h
  split at h
  · rename_i e' h1
    injection h with h
    subst h
    exact sg _ _ h1
  · split at h
    · rename_i e' h1
      injection h with h
      subst h
      exact sg _ _ h1
    · cases h
set_option maxRecDepth 100000 in
set_option maxHeartbeats 2000000 in
theorem rpower_even (lo hi : Int) (t : Nat) (w : World) (h : Rt ⟨lo, hi⟩) (ht : t ≤ 100) (he : t % 2 = 0) :
    Calls Tryz.prog 61 #[.agg #[.int .i64 lo, .int .i64 hi], .int .i64 t] w (RetX rfR (raisedF ⟨lo, hi⟩ t) w) := by
  have Hap := hid (fun W => rfar_any lo hi W h)
  obtain ⟨⟨a1, a2⟩, ⟨a3, a4⟩⟩ := apart_bd ⟨lo, hi⟩ h.1 h.2.1
  have hpos : 0 ≤ (apartF ⟨lo, hi⟩).1 ∧ 0 ≤ (apartF ⟨lo, hi⟩).2 := by
    obtain ⟨⟨_, _⟩, ⟨_, _⟩, h3⟩ := h
    dsimp only at *
    unfold apartF
    dsimp only
    by_cases hz : zeroF ⟨lo, hi⟩ = true
    · rw [if_pos hz]; simp [zeroF] at hz; omega
    · rw [if_neg hz]; simp [zeroF] at hz; omega
  have hd : ((t : Int) % 2 == 0) = true := by simp; omega
  have hr : raisedF ⟨lo, hi⟩ t = raisedG (apartF ⟨lo, hi⟩) t := by simp [raisedF, he]
  rw [hr]
  generalize apartF ⟨lo, hi⟩ = ap at *
  obtain ⟨p, q⟩ := ap
  dsimp only at a1 a2 a3 a4 hpos
  have Hs1 := hid (fun W => ragain_any p t W hpos.1 a2 ht)
  have Hs2 := hid (fun W => ragain_any q t W hpos.2 a4 ht)
  cases h1 : againF p t with
  | error n1 =>
    have H1 := hid h1
    have n4 := again_four t h1
    subst n4
    have Hr := hid (show raisedG (p, q) t = .error 4 from raised_bad1 ((signed_pos hpos.1).trans h1))
    clear h1 hr he h
    go_enter Tryz.func61, Tryz.ntmps61
    go_wp2_with (first
      | ((go_at_call 94; refine (Hap.out _).mono ?_; rintro e w1 ⟨x, hx, rfl, hb1⟩; subst hx) <;> (obtain ⟨hc1, hf1⟩ := bcell hb1; obtain ⟨_, _⟩ : w.heap.size < w1.heap.size ∧ w.heap.size + 1 < w1.heap.size := (by have hle := Up.le hb1; first | omega | (simp at hle; omega) | (simp at hle; done))))
      | ((go_at_call 95; (with_reducible refine (Hs1.out _).mono ?_); rintro e w2 ⟨x2, hx2, rfl, hb2⟩; rw [H1.out] at hx2; subst hx2) <;> (obtain ⟨hc2, hf2⟩ := bcell hb2; obtain ⟨_, _⟩ : w.heap.size < w2.heap.size ∧ w.heap.size + 1 < w2.heap.size := (by have hle := Up.le hb2; first | omega | (simp at hle; omega) | (simp at hle; done)))))
    all_goals
      (refine bodyPost_res rfl ?_; simp only [results, Tryz.results61]; go_simp; refine resPost_ok ?_)
      refine RetX.mk (.error 4) ?_ Hr.out rfl
      (repeat (first | (with_reducible exact Up.refl _) | (with_reducible assumption) | (with_reducible refine Up.alloc ?_ _) | (with_reducible refine Up.drew ?_) | ((with_reducible refine Up.set ?_ ?_ _); rotate_left; focus (first | omega | (simp; done) | (simp; omega))) | (with_reducible refine Up.drewN ?_ _) | (with_reducible refine Up.call ?_ (by with_reducible assumption))))
  | ok x =>
    have H1 := hid h1
    cases h2 : againF q t with
    | error n2 =>
      have H2 := hid h2
      have n4 := again_four t h2
      subst n4
      have Hr := hid (show raisedG (p, q) t = .error 4 from raised_bad2 ((signed_pos hpos.1).trans h1) ((signed_pos hpos.2).trans h2))
      clear h1 h2 hr he h
      go_enter Tryz.func61, Tryz.ntmps61
      go_wp2_with (first
        | ((go_at_call 94; refine (Hap.out _).mono ?_; rintro e w1 ⟨x, hx, rfl, hb1⟩; subst hx) <;> (obtain ⟨hc1, hf1⟩ := bcell hb1; obtain ⟨_, _⟩ : w.heap.size < w1.heap.size ∧ w.heap.size + 1 < w1.heap.size := (by have hle := Up.le hb1; first | omega | (simp at hle; omega) | (simp at hle; done))))
        | ((go_at_call 95; (with_reducible refine (Hs1.out _).mono ?_); rintro e w2 ⟨x2, hx2, rfl, hb2⟩; have _n := hb1; clear _n; rw [H1.out] at hx2; subst hx2) <;> (obtain ⟨hc2, hf2⟩ := bcell hb2; obtain ⟨_, _⟩ : w.heap.size < w2.heap.size ∧ w.heap.size + 1 < w2.heap.size := (by have hle := Up.le hb2; first | omega | (simp at hle; omega) | (simp at hle; done))))
        | ((go_at_call 95; (with_reducible refine (Hs2.out _).mono ?_); rintro e w3 ⟨x3, hx3, rfl, hb3⟩; rw [H2.out] at hx3; subst hx3) <;> (obtain ⟨hc3, hf3⟩ := bcell hb3; obtain ⟨_, _⟩ : w.heap.size < w3.heap.size ∧ w.heap.size + 1 < w3.heap.size := (by have hle := Up.le hb3; first | omega | (simp at hle; omega) | (simp at hle; done)))))
      all_goals
        (refine bodyPost_res rfl ?_; simp only [results, Tryz.results61]; go_simp; refine resPost_ok ?_)
        refine RetX.mk (.error 4) ?_ Hr.out rfl
        (repeat (first | (with_reducible exact Up.refl _) | (with_reducible assumption) | (with_reducible refine Up.alloc ?_ _) | (with_reducible refine Up.drew ?_) | ((with_reducible refine Up.set ?_ ?_ _); rotate_left; focus (first | omega | (simp; done) | (simp; omega))) | (with_reducible refine Up.drewN ?_ _) | (with_reducible refine Up.call ?_ (by with_reducible assumption))))
    | ok y =>
      have H2 := hid h2
      have Hr := hid (show raisedG (p, q) t = .ok ⟨x.1, y.2⟩ from raised_ok ((signed_pos hpos.1).trans h1) ((signed_pos hpos.2).trans h2))
      clear h1 h2 hr he h
      go_enter Tryz.func61, Tryz.ntmps61
      go_wp2_with (first
        | ((go_at_call 94; refine (Hap.out _).mono ?_; rintro e w1 ⟨x, hx, rfl, hb1⟩; subst hx) <;> (obtain ⟨hc1, hf1⟩ := bcell hb1; obtain ⟨_, _⟩ : w.heap.size < w1.heap.size ∧ w.heap.size + 1 < w1.heap.size := (by have hle := Up.le hb1; first | omega | (simp at hle; omega) | (simp at hle; done))))
        | ((go_at_call 95; (with_reducible refine (Hs1.out _).mono ?_); rintro e w2 ⟨x2, hx2, rfl, hb2⟩; rw [H1.out] at hx2; subst hx2) <;> (obtain ⟨hc2, hf2⟩ := bcell hb2; obtain ⟨_, _⟩ : w.heap.size < w2.heap.size ∧ w.heap.size + 1 < w2.heap.size := (by have hle := Up.le hb2; first | omega | (simp at hle; omega) | (simp at hle; done))))
        | ((go_at_call 95; (with_reducible refine (Hs2.out _).mono ?_); rintro e w3 ⟨x3, hx3, rfl, hb3⟩; rw [H2.out] at hx3; subst hx3) <;> (obtain ⟨hc3, hf3⟩ := bcell hb3; obtain ⟨_, _⟩ : w.heap.size < w3.heap.size ∧ w.heap.size + 1 < w3.heap.size := (by have hle := Up.le hb3; first | omega | (simp at hle; omega) | (simp at hle; done)))))
      all_goals
        (refine bodyPost_res rfl ?_; simp only [results, Tryz.results61]; go_simp; refine resPost_ok ?_)
        refine RetX.mk (.ok ⟨x.1, y.2⟩) ?_ Hr.out rfl
        (repeat (first | (with_reducible exact Up.refl _) | (with_reducible assumption) | (with_reducible refine Up.alloc ?_ _) | (with_reducible refine Up.drew ?_) | ((with_reducible refine Up.set ?_ ?_ _); rotate_left; focus (first | omega | (simp; done) | (simp; omega))) | (with_reducible refine Up.drewN ?_ _) | (with_reducible refine Up.call ?_ (by with_reducible assumption))))
end Go.Proofs.YtmjcnpolnknkkaaGreatDoor

namespace Go.Proofs.YtmjcnpolnknkkaaGreatDoor
open Go.RowKit

theorem sg_pos_err {n : Int} {t e : Nat} (h : 0 ≤ n) (h1 : againF n t = .error e) : signedF n t = .error e := (signed_pos h).trans h1
theorem sg_neg_err {n : Int} {t e : Nat} (h : n < 0) (h1 : againF (-n) t = .error e) : signedF n t = .error e := by rw [signed_neg h, h1]
theorem sg_pos_ok {n : Int} {t : Nat} {x : Int × Int} (h : 0 ≤ n) (h1 : againF n t = .ok x) : signedF n t = .ok x := (signed_pos h).trans h1
theorem sg_neg_ok {n : Int} {t : Nat} {x : Int × Int} (h : n < 0) (h1 : againF (-n) t = .ok x) : signedF n t = .ok (-x.2, -x.1) := by rw [signed_neg h, h1]
set_option maxRecDepth 100000 in
set_option maxHeartbeats 2000000 in
theorem rpower_pp (lo hi : Int) (t : Nat) (w : World) (h : Rt ⟨lo, hi⟩) (ht : t ≤ 100) (he : t % 2 = 1) (s1 : 0 ≤ lo) (s2 : 0 ≤ hi) :
    Calls Tryz.prog 61 #[.agg #[.int .i64 lo, .int .i64 hi], .int .i64 t] w (RetX rfR (raisedF ⟨lo, hi⟩ t) w) := by
  obtain ⟨⟨a1, a2⟩, ⟨a3, a4⟩, a5⟩ := h
  dsimp only at a1 a2 a3 a4 a5
  have hd : ((t : Int) % 2 == 0) = false := by simp; omega
  have hr : raisedF ⟨lo, hi⟩ t = raisedG (lo, hi) t := by simp [raisedF, he]
  rw [hr]
  have Hs1 := hid (fun W => ragain_any lo t W (by omega) (by omega) ht)
  have Hs2 := hid (fun W => ragain_any hi t W (by omega) (by omega) ht)
  cases h1 : againF lo t with
  | error n1 =>
    have H1 := hid h1
    have n4 := again_four t h1
    subst n4
    have Hr := hid (show raisedG (lo, hi) t = .error 4 from raised_bad1 (sg_pos_err s1 h1))
    clear h1 hr he
    go_enter Tryz.func61, Tryz.ntmps61
    go_wp2_with (first
      | ((go_at_call 95; (with_reducible refine (Hs1.out _).mono ?_); rintro e w1 ⟨x1, hx1, rfl, hb1⟩; rw [H1.out] at hx1; subst hx1) <;> (obtain ⟨hc1, hf1⟩ := bcell hb1; obtain ⟨_, _, _⟩ : w.heap.size < w1.heap.size ∧ w.heap.size + 1 < w1.heap.size ∧ w.heap.size + 1 + 1 < w1.heap.size := (by have hle := Up.le hb1; first | omega | (simp at hle; omega) | (simp at hle; done)))))
    all_goals
      (refine bodyPost_res rfl ?_; simp only [results, Tryz.results61]; go_simp; refine resPost_ok ?_)
      refine RetX.mk (.error 4) ?_ Hr.out rfl
      (repeat (first | (with_reducible exact Up.refl _) | (with_reducible assumption) | (with_reducible refine Up.alloc ?_ _) | (with_reducible refine Up.drew ?_) | ((with_reducible refine Up.set ?_ ?_ _); rotate_left; focus (first | omega | (simp; done) | (simp; omega))) | (with_reducible refine Up.drewN ?_ _) | (with_reducible refine Up.call ?_ (by with_reducible assumption))))
  | ok x =>
    have H1 := hid h1
    obtain ⟨b1, b2, b3⟩ := again_bd lo (by omega) t x.1 x.2 h1
    cases h2 : againF hi t with
    | error n2 =>
      have H2 := hid h2
      have n4 := again_four t h2
      subst n4
      have Hr := hid (show raisedG (lo, hi) t = .error 4 from raised_bad2 (sg_pos_ok s1 h1) (sg_pos_err s2 h2))
      clear h1 h2 hr he
      go_enter Tryz.func61, Tryz.ntmps61
      go_wp2_with (first
        | ((go_at_call 95; (with_reducible refine (Hs1.out _).mono ?_); rintro e w1 ⟨x1, hx1, rfl, hb1⟩; rw [H1.out] at hx1; subst hx1) <;> (obtain ⟨hc1, hf1⟩ := bcell hb1; obtain ⟨_, _, _⟩ : w.heap.size < w1.heap.size ∧ w.heap.size + 1 < w1.heap.size ∧ w.heap.size + 1 + 1 < w1.heap.size := (by have hle := Up.le hb1; first | omega | (simp at hle; omega) | (simp at hle; done))))
        | ((go_at_call 95; (with_reducible refine (Hs2.out _).mono ?_); rintro e w2 ⟨x2, hx2, rfl, hb2⟩; have _n := hb1; clear _n; rw [H2.out] at hx2; subst hx2) <;> (obtain ⟨hc2, hf2⟩ := bcell hb2; obtain ⟨_, _, _⟩ : w.heap.size < w2.heap.size ∧ w.heap.size + 1 < w2.heap.size ∧ w.heap.size + 1 + 1 < w2.heap.size := (by have hle := Up.le hb2; first | omega | (simp at hle; omega) | (simp at hle; done)))))
      all_goals
        (refine bodyPost_res rfl ?_; simp only [results, Tryz.results61]; go_simp; refine resPost_ok ?_)
        refine RetX.mk (.error 4) ?_ Hr.out rfl
        (repeat (first | (with_reducible exact Up.refl _) | (with_reducible assumption) | (with_reducible refine Up.alloc ?_ _) | (with_reducible refine Up.drew ?_) | ((with_reducible refine Up.set ?_ ?_ _); rotate_left; focus (first | omega | (simp; done) | (simp; omega))) | (with_reducible refine Up.drewN ?_ _) | (with_reducible refine Up.call ?_ (by with_reducible assumption))))
    | ok y =>
      have H2 := hid h2
      obtain ⟨c1, c2, c3⟩ := again_bd hi (by omega) t y.1 y.2 h2
      have Hr := hid (show raisedG (lo, hi) t = .ok ⟨x.1, y.2⟩ from raised_ok (sg_pos_ok s1 h1) (sg_pos_ok s2 h2))
      clear h1 h2 hr he
      go_enter Tryz.func61, Tryz.ntmps61
      go_wp2_with (first
        | ((go_at_call 95; (with_reducible refine (Hs1.out _).mono ?_); rintro e w1 ⟨x1, hx1, rfl, hb1⟩; rw [H1.out] at hx1; subst hx1) <;> (obtain ⟨hc1, hf1⟩ := bcell hb1; obtain ⟨_, _, _⟩ : w.heap.size < w1.heap.size ∧ w.heap.size + 1 < w1.heap.size ∧ w.heap.size + 1 + 1 < w1.heap.size := (by have hle := Up.le hb1; first | omega | (simp at hle; omega) | (simp at hle; done))))
        | ((go_at_call 95; (with_reducible refine (Hs2.out _).mono ?_); rintro e w2 ⟨x2, hx2, rfl, hb2⟩; have _n := hb1; clear _n; rw [H2.out] at hx2; subst hx2) <;> (obtain ⟨hc2, hf2⟩ := bcell hb2; obtain ⟨_, _, _⟩ : w.heap.size < w2.heap.size ∧ w.heap.size + 1 < w2.heap.size ∧ w.heap.size + 1 + 1 < w2.heap.size := (by have hle := Up.le hb2; first | omega | (simp at hle; omega) | (simp at hle; done)))))
      all_goals
        (refine bodyPost_res rfl ?_; simp only [results, Tryz.results61]; go_simp; refine resPost_ok ?_)
        refine RetX.mk (.ok ⟨x.1, y.2⟩) ?_ Hr.out rfl
        (repeat (first | (with_reducible exact Up.refl _) | (with_reducible assumption) | (with_reducible refine Up.alloc ?_ _) | (with_reducible refine Up.drew ?_) | ((with_reducible refine Up.set ?_ ?_ _); rotate_left; focus (first | omega | (simp; done) | (simp; omega))) | (with_reducible refine Up.drewN ?_ _) | (with_reducible refine Up.call ?_ (by with_reducible assumption))))
set_option maxRecDepth 100000 in
set_option maxHeartbeats 2000000 in
theorem rpower_np (lo hi : Int) (t : Nat) (w : World) (h : Rt ⟨lo, hi⟩) (ht : t ≤ 100) (he : t % 2 = 1) (s1 : lo < 0) (s2 : 0 ≤ hi) :
    Calls Tryz.prog 61 #[.agg #[.int .i64 lo, .int .i64 hi], .int .i64 t] w (RetX rfR (raisedF ⟨lo, hi⟩ t) w) := by
  obtain ⟨⟨a1, a2⟩, ⟨a3, a4⟩, a5⟩ := h
  dsimp only at a1 a2 a3 a4 a5
  have hd : ((t : Int) % 2 == 0) = false := by simp; omega
  have hr : raisedF ⟨lo, hi⟩ t = raisedG (lo, hi) t := by simp [raisedF, he]
  rw [hr]
  have Hs1 := hid (fun W => ragain_any (-lo) t W (by omega) (by omega) ht)
  have Hs2 := hid (fun W => ragain_any hi t W (by omega) (by omega) ht)
  cases h1 : againF (-lo) t with
  | error n1 =>
    have H1 := hid h1
    have n4 := again_four t h1
    subst n4
    have Hr := hid (show raisedG (lo, hi) t = .error 4 from raised_bad1 (sg_neg_err s1 h1))
    clear h1 hr he
    go_enter Tryz.func61, Tryz.ntmps61
    go_wp2_with (first
      | ((go_at_call 95; (with_reducible refine (Hs1.out _).mono ?_); rintro e w1 ⟨x1, hx1, rfl, hb1⟩; rw [H1.out] at hx1; subst hx1) <;> (obtain ⟨hc1, hf1⟩ := bcell hb1; obtain ⟨_, _, _⟩ : w.heap.size < w1.heap.size ∧ w.heap.size + 1 < w1.heap.size ∧ w.heap.size + 1 + 1 < w1.heap.size := (by have hle := Up.le hb1; first | omega | (simp at hle; omega) | (simp at hle; done)))))
    all_goals
      (refine bodyPost_res rfl ?_; simp only [results, Tryz.results61]; go_simp; refine resPost_ok ?_)
      refine RetX.mk (.error 4) ?_ Hr.out rfl
      (repeat (first | (with_reducible exact Up.refl _) | (with_reducible assumption) | (with_reducible refine Up.alloc ?_ _) | (with_reducible refine Up.drew ?_) | ((with_reducible refine Up.set ?_ ?_ _); rotate_left; focus (first | omega | (simp; done) | (simp; omega))) | (with_reducible refine Up.drewN ?_ _) | (with_reducible refine Up.call ?_ (by with_reducible assumption))))
  | ok x =>
    have H1 := hid h1
    obtain ⟨b1, b2, b3⟩ := again_bd (-lo) (by omega) t x.1 x.2 h1
    cases h2 : againF hi t with
    | error n2 =>
      have H2 := hid h2
      have n4 := again_four t h2
      subst n4
      have Hr := hid (show raisedG (lo, hi) t = .error 4 from raised_bad2 (sg_neg_ok s1 h1) (sg_pos_err s2 h2))
      clear h1 h2 hr he
      go_enter Tryz.func61, Tryz.ntmps61
      go_wp2_with (first
        | ((go_at_call 95; (with_reducible refine (Hs1.out _).mono ?_); rintro e w1 ⟨x1, hx1, rfl, hb1⟩; rw [H1.out] at hx1; subst hx1) <;> (obtain ⟨hc1, hf1⟩ := bcell hb1; obtain ⟨_, _, _⟩ : w.heap.size < w1.heap.size ∧ w.heap.size + 1 < w1.heap.size ∧ w.heap.size + 1 + 1 < w1.heap.size := (by have hle := Up.le hb1; first | omega | (simp at hle; omega) | (simp at hle; done))))
        | ((go_at_call 95; (with_reducible refine (Hs2.out _).mono ?_); rintro e w2 ⟨x2, hx2, rfl, hb2⟩; have _n := hb1; clear _n; rw [H2.out] at hx2; subst hx2) <;> (obtain ⟨hc2, hf2⟩ := bcell hb2; obtain ⟨_, _, _⟩ : w.heap.size < w2.heap.size ∧ w.heap.size + 1 < w2.heap.size ∧ w.heap.size + 1 + 1 < w2.heap.size := (by have hle := Up.le hb2; first | omega | (simp at hle; omega) | (simp at hle; done)))))
      all_goals
        (refine bodyPost_res rfl ?_; simp only [results, Tryz.results61]; go_simp; refine resPost_ok ?_)
        refine RetX.mk (.error 4) ?_ Hr.out rfl
        (repeat (first | (with_reducible exact Up.refl _) | (with_reducible assumption) | (with_reducible refine Up.alloc ?_ _) | (with_reducible refine Up.drew ?_) | ((with_reducible refine Up.set ?_ ?_ _); rotate_left; focus (first | omega | (simp; done) | (simp; omega))) | (with_reducible refine Up.drewN ?_ _) | (with_reducible refine Up.call ?_ (by with_reducible assumption))))
    | ok y =>
      have H2 := hid h2
      obtain ⟨c1, c2, c3⟩ := again_bd hi (by omega) t y.1 y.2 h2
      have Hr := hid (show raisedG (lo, hi) t = .ok ⟨-x.2, y.2⟩ from raised_ok (sg_neg_ok s1 h1) (sg_pos_ok s2 h2))
      clear h1 h2 hr he
      go_enter Tryz.func61, Tryz.ntmps61
      go_wp2_with (first
        | ((go_at_call 95; (with_reducible refine (Hs1.out _).mono ?_); rintro e w1 ⟨x1, hx1, rfl, hb1⟩; rw [H1.out] at hx1; subst hx1) <;> (obtain ⟨hc1, hf1⟩ := bcell hb1; obtain ⟨_, _, _⟩ : w.heap.size < w1.heap.size ∧ w.heap.size + 1 < w1.heap.size ∧ w.heap.size + 1 + 1 < w1.heap.size := (by have hle := Up.le hb1; first | omega | (simp at hle; omega) | (simp at hle; done))))
        | ((go_at_call 95; (with_reducible refine (Hs2.out _).mono ?_); rintro e w2 ⟨x2, hx2, rfl, hb2⟩; have _n := hb1; clear _n; rw [H2.out] at hx2; subst hx2) <;> (obtain ⟨hc2, hf2⟩ := bcell hb2; obtain ⟨_, _, _⟩ : w.heap.size < w2.heap.size ∧ w.heap.size + 1 < w2.heap.size ∧ w.heap.size + 1 + 1 < w2.heap.size := (by have hle := Up.le hb2; first | omega | (simp at hle; omega) | (simp at hle; done)))))
      all_goals
        (refine bodyPost_res rfl ?_; simp only [results, Tryz.results61]; go_simp; refine resPost_ok ?_)
        refine RetX.mk (.ok ⟨-x.2, y.2⟩) ?_ Hr.out rfl
        (repeat (first | (with_reducible exact Up.refl _) | (with_reducible assumption) | (with_reducible refine Up.alloc ?_ _) | (with_reducible refine Up.drew ?_) | ((with_reducible refine Up.set ?_ ?_ _); rotate_left; focus (first | omega | (simp; done) | (simp; omega))) | (with_reducible refine Up.drewN ?_ _) | (with_reducible refine Up.call ?_ (by with_reducible assumption))))
set_option maxRecDepth 100000 in
set_option maxHeartbeats 2000000 in
theorem rpower_nn (lo hi : Int) (t : Nat) (w : World) (h : Rt ⟨lo, hi⟩) (ht : t ≤ 100) (he : t % 2 = 1) (s1 : lo < 0) (s2 : hi < 0) :
    Calls Tryz.prog 61 #[.agg #[.int .i64 lo, .int .i64 hi], .int .i64 t] w (RetX rfR (raisedF ⟨lo, hi⟩ t) w) := by
  obtain ⟨⟨a1, a2⟩, ⟨a3, a4⟩, a5⟩ := h
  dsimp only at a1 a2 a3 a4 a5
  have hd : ((t : Int) % 2 == 0) = false := by simp; omega
  have hr : raisedF ⟨lo, hi⟩ t = raisedG (lo, hi) t := by simp [raisedF, he]
  rw [hr]
  have Hs1 := hid (fun W => ragain_any (-lo) t W (by omega) (by omega) ht)
  have Hs2 := hid (fun W => ragain_any (-hi) t W (by omega) (by omega) ht)
  cases h1 : againF (-lo) t with
  | error n1 =>
    have H1 := hid h1
    have n4 := again_four t h1
    subst n4
    have Hr := hid (show raisedG (lo, hi) t = .error 4 from raised_bad1 (sg_neg_err s1 h1))
    clear h1 hr he
    go_enter Tryz.func61, Tryz.ntmps61
    go_wp2_with (first
      | ((go_at_call 95; (with_reducible refine (Hs1.out _).mono ?_); rintro e w1 ⟨x1, hx1, rfl, hb1⟩; rw [H1.out] at hx1; subst hx1) <;> (obtain ⟨hc1, hf1⟩ := bcell hb1; obtain ⟨_, _, _⟩ : w.heap.size < w1.heap.size ∧ w.heap.size + 1 < w1.heap.size ∧ w.heap.size + 1 + 1 < w1.heap.size := (by have hle := Up.le hb1; first | omega | (simp at hle; omega) | (simp at hle; done)))))
    all_goals
      (refine bodyPost_res rfl ?_; simp only [results, Tryz.results61]; go_simp; refine resPost_ok ?_)
      refine RetX.mk (.error 4) ?_ Hr.out rfl
      (repeat (first | (with_reducible exact Up.refl _) | (with_reducible assumption) | (with_reducible refine Up.alloc ?_ _) | (with_reducible refine Up.drew ?_) | ((with_reducible refine Up.set ?_ ?_ _); rotate_left; focus (first | omega | (simp; done) | (simp; omega))) | (with_reducible refine Up.drewN ?_ _) | (with_reducible refine Up.call ?_ (by with_reducible assumption))))
  | ok x =>
    have H1 := hid h1
    obtain ⟨b1, b2, b3⟩ := again_bd (-lo) (by omega) t x.1 x.2 h1
    cases h2 : againF (-hi) t with
    | error n2 =>
      have H2 := hid h2
      have n4 := again_four t h2
      subst n4
      have Hr := hid (show raisedG (lo, hi) t = .error 4 from raised_bad2 (sg_neg_ok s1 h1) (sg_neg_err s2 h2))
      clear h1 h2 hr he
      go_enter Tryz.func61, Tryz.ntmps61
      go_wp2_with (first
        | ((go_at_call 95; (with_reducible refine (Hs1.out _).mono ?_); rintro e w1 ⟨x1, hx1, rfl, hb1⟩; rw [H1.out] at hx1; subst hx1) <;> (obtain ⟨hc1, hf1⟩ := bcell hb1; obtain ⟨_, _, _⟩ : w.heap.size < w1.heap.size ∧ w.heap.size + 1 < w1.heap.size ∧ w.heap.size + 1 + 1 < w1.heap.size := (by have hle := Up.le hb1; first | omega | (simp at hle; omega) | (simp at hle; done))))
        | ((go_at_call 95; (with_reducible refine (Hs2.out _).mono ?_); rintro e w2 ⟨x2, hx2, rfl, hb2⟩; have _n := hb1; clear _n; rw [H2.out] at hx2; subst hx2) <;> (obtain ⟨hc2, hf2⟩ := bcell hb2; obtain ⟨_, _, _⟩ : w.heap.size < w2.heap.size ∧ w.heap.size + 1 < w2.heap.size ∧ w.heap.size + 1 + 1 < w2.heap.size := (by have hle := Up.le hb2; first | omega | (simp at hle; omega) | (simp at hle; done)))))
      all_goals
        (refine bodyPost_res rfl ?_; simp only [results, Tryz.results61]; go_simp; refine resPost_ok ?_)
        refine RetX.mk (.error 4) ?_ Hr.out rfl
        (repeat (first | (with_reducible exact Up.refl _) | (with_reducible assumption) | (with_reducible refine Up.alloc ?_ _) | (with_reducible refine Up.drew ?_) | ((with_reducible refine Up.set ?_ ?_ _); rotate_left; focus (first | omega | (simp; done) | (simp; omega))) | (with_reducible refine Up.drewN ?_ _) | (with_reducible refine Up.call ?_ (by with_reducible assumption))))
    | ok y =>
      have H2 := hid h2
      obtain ⟨c1, c2, c3⟩ := again_bd (-hi) (by omega) t y.1 y.2 h2
      have Hr := hid (show raisedG (lo, hi) t = .ok ⟨-x.2, -y.1⟩ from raised_ok (sg_neg_ok s1 h1) (sg_neg_ok s2 h2))
      clear h1 h2 hr he
      go_enter Tryz.func61, Tryz.ntmps61
      go_wp2_with (first
        | ((go_at_call 95; (with_reducible refine (Hs1.out _).mono ?_); rintro e w1 ⟨x1, hx1, rfl, hb1⟩; rw [H1.out] at hx1; subst hx1) <;> (obtain ⟨hc1, hf1⟩ := bcell hb1; obtain ⟨_, _, _⟩ : w.heap.size < w1.heap.size ∧ w.heap.size + 1 < w1.heap.size ∧ w.heap.size + 1 + 1 < w1.heap.size := (by have hle := Up.le hb1; first | omega | (simp at hle; omega) | (simp at hle; done))))
        | ((go_at_call 95; (with_reducible refine (Hs2.out _).mono ?_); rintro e w2 ⟨x2, hx2, rfl, hb2⟩; have _n := hb1; clear _n; rw [H2.out] at hx2; subst hx2) <;> (obtain ⟨hc2, hf2⟩ := bcell hb2; obtain ⟨_, _, _⟩ : w.heap.size < w2.heap.size ∧ w.heap.size + 1 < w2.heap.size ∧ w.heap.size + 1 + 1 < w2.heap.size := (by have hle := Up.le hb2; first | omega | (simp at hle; omega) | (simp at hle; done)))))
      all_goals
        (refine bodyPost_res rfl ?_; simp only [results, Tryz.results61]; go_simp; refine resPost_ok ?_)
        refine RetX.mk (.ok ⟨-x.2, -y.1⟩) ?_ Hr.out rfl
        (repeat (first | (with_reducible exact Up.refl _) | (with_reducible assumption) | (with_reducible refine Up.alloc ?_ _) | (with_reducible refine Up.drew ?_) | ((with_reducible refine Up.set ?_ ?_ _); rotate_left; focus (first | omega | (simp; done) | (simp; omega))) | (with_reducible refine Up.drewN ?_ _) | (with_reducible refine Up.call ?_ (by with_reducible assumption))))
theorem rpower_any (lo hi : Int) (t : Nat) (w : World) (h : Rt ⟨lo, hi⟩) (ht : t ≤ 100) :
    Calls Tryz.prog 61 #[.agg #[.int .i64 lo, .int .i64 hi], .int .i64 t] w (RetX rfR (raisedF ⟨lo, hi⟩ t) w) := by
  rcases Nat.mod_two_eq_zero_or_one t with he | he
  · exact rpower_even lo hi t w h ht he
  · have hle := h.2.2
    dsimp only at hle
    rcases Int.lt_or_le lo 0 with s1 | s1
    · rcases Int.lt_or_le hi 0 with s2 | s2
      · exact rpower_nn lo hi t w h ht he s1 s2
      · exact rpower_np lo hi t w h ht he s1 s2
    · exact rpower_pp lo hi t w h ht he s1 (by omega)
end Go.Proofs.YtmjcnpolnknkkaaGreatDoor
