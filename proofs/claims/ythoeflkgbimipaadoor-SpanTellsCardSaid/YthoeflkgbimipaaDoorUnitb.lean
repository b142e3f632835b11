/- The walks of package unit: fits, Times, By. -/
import Derived.Test.YthoeflkgbimipaaDoorSpanb
set_option linter.unusedVariables false
set_option linter.unusedSimpArgs false
namespace Go.Proofs.YthoeflkgbimipaaDoor
open Go.RowKit

def ufitsF (lo hi : Int) : Except Nat (Int × Int) := if M lo ∧ M hi then .ok (lo, hi) else .error 4
def utimesF (a b : Int) : Except Nat (Int × Int) := if M a ∧ M b then ufitsF (pdn a b) (pup a b) else .error 1
def ubyF (a b : Int) : Except Nat (Int × Int) := if M a ∧ M b then (if b = 0 then .error 8 else ufitsF (qdn a b) (qup a b)) else .error 1
theorem umul_bd {x y : Int} (h1 : M x) (h2 : M y) : -1000000000000000000 ≤ x * y ∧ x * y ≤ 1000000000000000000 := by
  obtain ⟨a, b⟩ := h1; obtain ⟨c, d⟩ := h2
  have h : (x * y).natAbs ≤ 1000000000 * 1000000000 := by
    rw [Int.natAbs_mul]; exact Nat.mul_le_mul (by omega) (by omega)
  omega
theorem ufits_any (lo hi : Int) (w : World) :
    Calls Tryd.prog 54 #[.int .i64 lo, .int .i64 hi] w fun e w' => e = .returned (int2R (ufitsF lo hi)) ∧ Up w w' := by
  by_cases h : M lo ∧ M hi
  · have e1 : mayB lo = true := mayB_true.2 h.1
    have e2 : mayB hi = true := mayB_true.2 h.2
    rw [show ufitsF lo hi = .ok (lo, hi) by unfold ufitsF; rw [if_pos h]]
    clear h
    go_enter Tryd.func54, Tryd.ntmps54
    go_wp2_with (go_at_call 53; refine (may_any _ _).mono ?_; rintro e w' ⟨rfl, rfl⟩)
    all_goals
      go_ret3
      refine ⟨rfl, ?_⟩
      (repeat (first | (with_reducible exact Up.refl _) | (with_reducible assumption) | (with_reducible refine Up.alloc ?_ _) | (with_reducible refine Up.drew ?_) | ((with_reducible refine Up.set ?_ ?_ _); rotate_left; focus (first | omega | (simp; done) | (simp; omega))) | (with_reducible refine Up.drewN ?_ _) | (with_reducible refine Up.call ?_ (by with_reducible assumption))))
  · rw [show ufitsF lo hi = .error 4 by unfold ufitsF; rw [if_neg h]]
    by_cases h1 : M lo
    · have e1 : mayB lo = true := mayB_true.2 h1
      have e2 : mayB hi = false := mayB_false.2 (fun k => h ⟨h1, k⟩)
      clear h h1
      go_enter Tryd.func54, Tryd.ntmps54
      go_wp2_with (go_at_call 53; refine (may_any _ _).mono ?_; rintro e w' ⟨rfl, rfl⟩)
      all_goals
        go_ret3
        refine ⟨rfl, ?_⟩
        (repeat (first | (with_reducible exact Up.refl _) | (with_reducible assumption) | (with_reducible refine Up.alloc ?_ _) | (with_reducible refine Up.drew ?_) | ((with_reducible refine Up.set ?_ ?_ _); rotate_left; focus (first | omega | (simp; done) | (simp; omega))) | (with_reducible refine Up.drewN ?_ _) | (with_reducible refine Up.call ?_ (by with_reducible assumption))))
    · have e1 : mayB lo = false := mayB_false.2 h1
      clear h h1
      go_enter Tryd.func54, Tryd.ntmps54
      go_wp2_with (go_at_call 53; refine (may_any _ _).mono ?_; rintro e w' ⟨rfl, rfl⟩)
      all_goals
        go_ret3
        refine ⟨rfl, ?_⟩
        (repeat (first | (with_reducible exact Up.refl _) | (with_reducible assumption) | (with_reducible refine Up.alloc ?_ _) | (with_reducible refine Up.drew ?_) | ((with_reducible refine Up.set ?_ ?_ _); rotate_left; focus (first | omega | (simp; done) | (simp; omega))) | (with_reducible refine Up.drewN ?_ _) | (with_reducible refine Up.call ?_ (by with_reducible assumption))))
theorem int2R_cases (r : Except Nat (Int × Int)) : (∃ n, r = .error n) ∨ ∃ a b, r = .ok (a, b) := by
  cases r with
  | error n => exact .inl ⟨n, rfl⟩
  | ok p => exact .inr ⟨p.1, p.2, rfl⟩
theorem utimes_any (a b : Int) (w : World) :
    Calls Tryd.prog 13 #[.int .i64 a, .int .i64 b] w fun e w' => e = .returned (int2R (utimesF a b)) ∧ Up w w' := by
  by_cases h : M a ∧ M b
  · have e1 : mayB a = true := mayB_true.2 h.1
    have e2 : mayB b = true := mayB_true.2 h.2
    rw [show utimesF a b = ufitsF (pdn a b) (pup a b) by unfold utimesF; rw [if_pos h]]
    obtain ⟨b1, b2⟩ := umul_bd h.1 h.2
    have Hp := hid (fun W => uproduct_any a b W (by omega) (by omega))
    clear h b1 b2
    rcases int2R_cases (ufitsF (pdn a b) (pup a b)) with ⟨n, hn⟩ | ⟨x, y, hn⟩
    all_goals
      rw [hn]
      have Hf := hid (fun W => (ufits_any (pdn a b) (pup a b) W).mono (fun e w' h => (by rw [hn] at h; exact h)))
      clear hn
      go_enter Tryd.func13, Tryd.ntmps13
      go_wp2_with (first
        | (go_at_call 53; refine (may_any _ _).mono ?_; rintro e w' ⟨rfl, rfl⟩)
        | (go_at_call 55; refine (Hp.out _).mono ?_; rintro e w' ⟨rfl, rfl⟩)
        | ((go_at_call 54; refine (Hf.out _).mono ?_; rintro e w1 ⟨rfl, hb1⟩)))
      all_goals
        go_ret3
        refine ⟨rfl, ?_⟩
        (repeat (first | (with_reducible exact Up.refl _) | (with_reducible assumption) | (with_reducible refine Up.alloc ?_ _) | (with_reducible refine Up.drew ?_) | ((with_reducible refine Up.set ?_ ?_ _); rotate_left; focus (first | omega | (simp; done) | (simp; omega))) | (with_reducible refine Up.drewN ?_ _) | (with_reducible refine Up.call ?_ (by with_reducible assumption))))
  · rw [show utimesF a b = .error 1 by unfold utimesF; rw [if_neg h]]
    by_cases h1 : M a
    · have e1 : mayB a = true := mayB_true.2 h1
      have e2 : mayB b = false := mayB_false.2 (fun k => h ⟨h1, k⟩)
      clear h h1
      go_enter Tryd.func13, Tryd.ntmps13
      go_wp2_with (go_at_call 53; refine (may_any _ _).mono ?_; rintro e w' ⟨rfl, rfl⟩)
      all_goals
        go_ret3
        refine ⟨rfl, ?_⟩
        (repeat (first | (with_reducible exact Up.refl _) | (with_reducible assumption) | (with_reducible refine Up.alloc ?_ _) | (with_reducible refine Up.drew ?_) | ((with_reducible refine Up.set ?_ ?_ _); rotate_left; focus (first | omega | (simp; done) | (simp; omega))) | (with_reducible refine Up.drewN ?_ _) | (with_reducible refine Up.call ?_ (by with_reducible assumption))))
    · have e1 : mayB a = false := mayB_false.2 h1
      clear h h1
      go_enter Tryd.func13, Tryd.ntmps13
      go_wp2_with (go_at_call 53; refine (may_any _ _).mono ?_; rintro e w' ⟨rfl, rfl⟩)
      all_goals
        go_ret3
        refine ⟨rfl, ?_⟩
        (repeat (first | (with_reducible exact Up.refl _) | (with_reducible assumption) | (with_reducible refine Up.alloc ?_ _) | (with_reducible refine Up.drew ?_) | ((with_reducible refine Up.set ?_ ?_ _); rotate_left; focus (first | omega | (simp; done) | (simp; omega))) | (with_reducible refine Up.drewN ?_ _) | (with_reducible refine Up.call ?_ (by with_reducible assumption))))
theorem uby_any (a b : Int) (w : World) :
    Calls Tryd.prog 14 #[.int .i64 a, .int .i64 b] w fun e w' => e = .returned (int2R (ubyF a b)) ∧ Up w w' := by
  by_cases h : M a ∧ M b
  · have e1 : mayB a = true := mayB_true.2 h.1
    have e2 : mayB b = true := mayB_true.2 h.2
    by_cases h0 : b = 0
    · rw [show ubyF a b = .error 8 by unfold ubyF; rw [if_pos h, if_pos h0]]
      have e3 : (b == 0) = true := by rw [h0]; rfl
      clear h h0
      go_enter Tryd.func14, Tryd.ntmps14
      go_wp2_with (go_at_call 53; refine (may_any _ _).mono ?_; rintro e w' ⟨rfl, rfl⟩)
      all_goals
        go_ret3
        refine ⟨rfl, ?_⟩
        (repeat (first | (with_reducible exact Up.refl _) | (with_reducible assumption) | (with_reducible refine Up.alloc ?_ _) | (with_reducible refine Up.drew ?_) | ((with_reducible refine Up.set ?_ ?_ _); rotate_left; focus (first | omega | (simp; done) | (simp; omega))) | (with_reducible refine Up.drewN ?_ _) | (with_reducible refine Up.call ?_ (by with_reducible assumption))))
    · rw [show ubyF a b = ufitsF (qdn a b) (qup a b) by unfold ubyF; rw [if_pos h, if_neg h0]]
      obtain ⟨⟨b1, b2⟩, ⟨b3, b4⟩⟩ := h
      have Hp := hid (fun W => uquotient_any a b W (by omega) (by omega) (by omega) (by omega) h0)
      have e3 : (b == 0) = false := beq_eq_false_iff_ne.2 h0
      clear b1 b2 b3 b4 h0
      rcases int2R_cases (ufitsF (qdn a b) (qup a b)) with ⟨n, hn⟩ | ⟨x, y, hn⟩
      all_goals
        rw [hn]
        have Hf := hid (fun W => (ufits_any (qdn a b) (qup a b) W).mono (fun e w' h => (by rw [hn] at h; exact h)))
        clear hn
        go_enter Tryd.func14, Tryd.ntmps14
        go_wp2_with (first
          | (go_at_call 53; refine (may_any _ _).mono ?_; rintro e w' ⟨rfl, rfl⟩)
          | (go_at_call 56; refine (Hp.out _).mono ?_; rintro e w' ⟨rfl, rfl⟩)
          | ((go_at_call 54; refine (Hf.out _).mono ?_; rintro e w1 ⟨rfl, hb1⟩)))
        all_goals
          go_ret3
          refine ⟨rfl, ?_⟩
          (repeat (first | (with_reducible exact Up.refl _) | (with_reducible assumption) | (with_reducible refine Up.alloc ?_ _) | (with_reducible refine Up.drew ?_) | ((with_reducible refine Up.set ?_ ?_ _); rotate_left; focus (first | omega | (simp; done) | (simp; omega))) | (with_reducible refine Up.drewN ?_ _) | (with_reducible refine Up.call ?_ (by with_reducible assumption))))
  · rw [show ubyF a b = .error 1 by unfold ubyF; rw [if_neg h]]
    by_cases h1 : M a
    · have e1 : mayB a = true := mayB_true.2 h1
      have e2 : mayB b = false := mayB_false.2 (fun k => h ⟨h1, k⟩)
      clear h h1
      go_enter Tryd.func14, Tryd.ntmps14
      go_wp2_with (go_at_call 53; refine (may_any _ _).mono ?_; rintro e w' ⟨rfl, rfl⟩)
      all_goals
        go_ret3
        refine ⟨rfl, ?_⟩
        (repeat (first | (with_reducible exact Up.refl _) | (with_reducible assumption) | (with_reducible refine Up.alloc ?_ _) | (with_reducible refine Up.drew ?_) | ((with_reducible refine Up.set ?_ ?_ _); rotate_left; focus (first | omega | (simp; done) | (simp; omega))) | (with_reducible refine Up.drewN ?_ _) | (with_reducible refine Up.call ?_ (by with_reducible assumption))))
    · have e1 : mayB a = false := mayB_false.2 h1
      clear h h1
      go_enter Tryd.func14, Tryd.ntmps14
      go_wp2_with (go_at_call 53; refine (may_any _ _).mono ?_; rintro e w' ⟨rfl, rfl⟩)
      all_goals
        go_ret3
        refine ⟨rfl, ?_⟩
        (repeat (first | (with_reducible exact Up.refl _) | (with_reducible assumption) | (with_reducible refine Up.alloc ?_ _) | (with_reducible refine Up.drew ?_) | ((with_reducible refine Up.set ?_ ?_ _); rotate_left; focus (first | omega | (simp; done) | (simp; omega))) | (with_reducible refine Up.drewN ?_ _) | (with_reducible refine Up.call ?_ (by with_reducible assumption))))
end Go.Proofs.YthoeflkgbimipaaDoor
