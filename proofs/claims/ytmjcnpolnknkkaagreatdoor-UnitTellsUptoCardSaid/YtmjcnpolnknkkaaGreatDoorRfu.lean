/- The reference's numbers as text: Digits, Text. -/
import Derived.Test.YtmjcnpolnknkkaaGreatDoorUnt
import Derived.Test.YtmjcnpolnknkkaaGreatDoorRfs

set_option linter.unusedVariables false
set_option linter.unusedSimpArgs false
namespace Go.Proofs.YtmjcnpolnknkkaaGreatDoor
open Go.RowKit

theorem ten_at : ∀ n : Fin 10, (⟨#[48, 49, 50, 51, 52, 53, 54, 55, 56, 57]⟩ : ByteArray).extract n.val (n.val + 1) = ⟨#[UInt8.ofNat (48 + n.val)]⟩ := by decide
theorem ten_is {n : Nat} (h : n < 10) : (⟨#[48, 49, 50, 51, 52, 53, 54, 55, 56, 57]⟩ : ByteArray).extract n (n + 1) = ⟨#[UInt8.ofNat (48 + n)]⟩ := ten_at ⟨n, h⟩
set_option maxRecDepth 100000 in
set_option maxHeartbeats 4000000 in
theorem rdig_any : ∀ (k m : Nat) (w : World), m < 10 ^ (k + 1) → k ≤ 15 → Calls Tryz.prog 45 #[.int .i64 (m : Int)] w (RetX strV (Lib.decDigits m) w) := by
  intro k
  induction k with
  | zero =>
    intro m w hm _
    have h10 : m < 10 := by omega
    have ht := ten_is h10
    rw [dd_small h10]
    have hd : decide ((m : Int) < 10) = true := decide_eq_true (by omega)
    have hd2 : (m : Int) < 10 := by omega
    have h0 : (0 : Int) ≤ (m : Int) := by omega
    have HT := hid ht
    clear hm ht
    go_enter Tryz.func45, Tryz.ntmps45
    go_wp2
    go_ret
    exact RetX.same (by (repeat (first | (with_reducible exact Up.refl _) | (with_reducible assumption) | (with_reducible refine Up.alloc ?_ _) | (with_reducible refine Up.drew ?_) | ((with_reducible refine Up.set ?_ ?_ _); rotate_left; focus (first | omega | (simp; done) | (simp; omega))) | (with_reducible refine Up.drewN ?_ _) | (with_reducible refine Up.call ?_ (by with_reducible assumption))))) (congrArg Value.string HT.out)
  | succ k ih =>
    intro m w hm hk
    by_cases h10 : m < 10
    · exact ih m w (Nat.lt_of_lt_of_le h10 (by rw [Nat.pow_succ]; have := Nat.one_le_pow k 10 (by decide); omega)) (by omega)
    · have ht := ten_is (show m % 10 < 10 by omega)
      have hq : m / 10 < 10 ^ (k + 1) := by rw [Nat.pow_succ] at hm; omega
      have hlen := dd_len 15 (m / 10) (Nat.lt_of_lt_of_le hq (Nat.pow_le_pow_right (by decide) (by omega)))
      have hmb : m < 10 ^ 17 := Nat.lt_of_lt_of_le hm (Nat.pow_le_pow_right (by decide) (by omega))
      rw [dd_big h10]
      obtain ⟨l, hl⟩ : ∃ l, Lib.decDigits (m / 10) = l := ⟨_, rfl⟩
      rw [hl] at hlen ⊢
      have HL := hid hl
      have hd : decide ((m : Int) < 10) = false := decide_eq_false (by omega)
      have hd2 : ¬ (m : Int) < 10 := by omega
      have h0 : (0 : Int) ≤ (m : Int) := by omega
      have h9 : (m : Int) < 100000000000000000 := by omega
      have HI := hid (fun W (k : Int) (hk : k = ((m / 10 : Nat) : Int)) => by have h := ih (m / 10) W hq (by omega); rw [← hk, HL.out] at h; exact h)
      have HT := hid ht
      have HQ := hid (show (m : Int) / 10 = ((m / 10 : Nat) : Int) by omega)
      have hr : (m : Int) % 10 = ((m % 10 : Nat) : Int) := by omega
      have hr2 : m % 10 < 10 := by omega
      clear ih hm hk ht hq hl
      generalize m % 10 = r at *
      go_enter Tryz.func45, Tryz.ntmps45
      go_wp2_with (first
                        | ((go_at_call 45; (with_reducible refine (HI.out _ _ HQ.out).mono ?_); rintro e w1 ⟨x1, rfl, rfl, hb1⟩) <;> (have hle := Up.le hb1; (try simp only [World.size_alloc, World.size_setCell, World.size_drew, World.heap_drewN] at hle); clear hle)))
      go_ret
      refine RetX.same (by (repeat (first | (with_reducible exact Up.refl _) | (with_reducible assumption) | (with_reducible refine Up.alloc ?_ _) | (with_reducible refine Up.drew ?_) | ((with_reducible refine Up.set ?_ ?_ _); rotate_left; focus (first | omega | (simp; done) | (simp; omega))) | (with_reducible refine Up.drewN ?_ _) | (with_reducible refine Up.call ?_ (by with_reducible assumption))))) (congrArg Value.string ?_)
      have h1 := ba_app l [UInt8.ofNat (48 + r)]
      exact (congrArg (fun b => (⟨l.toArray⟩ : ByteArray) ++ b) HT.out).trans h1
end Go.Proofs.YtmjcnpolnknkkaaGreatDoor
