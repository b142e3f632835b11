/- UnitTells: any two numbers times each other, one by the other one, any as text, and any text as one, are told as the reference tells them; where a text is of 1048576 bytes at most. -/
import Derived.Test.YtmjcnpolnknkkaaGreatDoorRfw
import Derived.Test.YtmjcnpolnknkkaaGreatDoorRft
import Derived.Test.YtmjcnpolnknkkaaGreatDoorDoors
import Derived.Test.YtmjcnpolnknkkaaGreatDoorSerr
import Derived.Test.YtmjcnpolnknkkaaGreatDoorUpd
import Derived.Test.YtmjcnpolnknkkaaGreatDoorBulk
import Derived.ChangeMaps5
import Derived.Deep.DeepCutAuto

set_option linter.unusedVariables false
set_option linter.unusedSimpArgs false
namespace Go.Proofs.YtmjcnpolnknkkaaGreatDoor
open Go.ChangeShapes Go.WideShapes Go.ChangeAt Go.RowKit Go.Joins Go.Deep

/-- Of two numbers: the reference's span of the product is what the program tells. -/
theorem prod_one (a b : Int) (ha : M a) (hb : M b) : utimesF a b = match prodF ⟨a, a⟩ ⟨b, b⟩ with
    | .ok s => .ok (s.lo, s.hi)
    | .error e => .error e := by
  unfold utimesF ufitsF prodF cornersF fitsF
  rw [if_pos ⟨ha, hb⟩]
  have e1 : min4 (pdn a b) (pdn a b) (pdn a b) (pdn a b) = pdn a b := by unfold min4; omega
  have e2 : max4 (pup a b) (pup a b) (pup a b) (pup a b) = pup a b := by unfold max4; omega
  dsimp only
  rw [e1, e2]
  split <;> rfl
theorem quo_one (a b : Int) (ha : M a) (hb : M b) : ubyF a b = match quoF ⟨a, a⟩ ⟨b, b⟩ with
    | .ok s => .ok (s.lo, s.hi)
    | .error e => .error e := by
  unfold ubyF ufitsF quoF cornersF fitsF zeroF
  rw [if_pos ⟨ha, hb⟩]
  have e1 : min4 (qdn a b) (qdn a b) (qdn a b) (qdn a b) = qdn a b := by unfold min4; omega
  have e2 : max4 (qup a b) (qup a b) (qup a b) (qup a b) = qup a b := by unfold max4; omega
  dsimp only
  rw [e1, e2]
  by_cases h : b = 0
  · subst h; simp
  · have hz : (decide (b ≤ 0) && decide (0 ≤ b)) = false := by
      rcases (show b < 0 ∨ 0 < b by omega) with h1 | h1
      · simp; omega
      · simp; omega
    by_cases hm : M (qdn a b) ∧ M (qup a b)
    · simp only [hz, if_neg h, if_pos hm]; rfl
    · simp only [hz, if_neg h, if_neg hm]; rfl
/-- A product, told both ways alike. -/
theorem times_both (a b : Int) (ha : M a) (hb : M b) : ∃ (lo hi : Int) (er : Option Nat), (∀ W, Calls Tryz.prog 11 #[.int .i64 a, .int .i64 b] W fun e w' => e = .returned (.tuple #[.int .i64 lo, .int .i64 hi, errV er]) ∧ Up W w') ∧
    (∀ W, Calls Tryz.prog 9 #[.agg #[.int .i64 a, .int .i64 a], .agg #[.int .i64 b, .int .i64 b]] W fun e w' => e = .returned (.tuple #[.agg #[.int .i64 lo, .int .i64 hi], .int .i64 (numO er)]) ∧ Up W w') := by
  have h1 := fun W => utimes_any a b W
  have h2 := fun W => rtimes_any a a b b W ha ha hb hb
  rw [prod_one a b ha hb] at h1
  cases hr : prodF ⟨a, a⟩ ⟨b, b⟩ with
  | ok s =>
    rw [hr] at h1 h2
    exact ⟨s.lo, s.hi, none, h1, fun W => (h2 W).mono fun e w' ⟨x, k1, k2, k3⟩ => ⟨by rw [k2, ← k1]; rfl, k3⟩⟩
  | error n =>
    rw [hr] at h1 h2
    exact ⟨0, 0, some n, h1, fun W => (h2 W).mono fun e w' ⟨x, k1, k2, k3⟩ => ⟨by rw [k2, ← k1]; rfl, k3⟩⟩
theorem by_both (a b : Int) (ha : M a) (hb : M b) : ∃ (lo hi : Int) (er : Option Nat), (∀ W, Calls Tryz.prog 14 #[.int .i64 a, .int .i64 b] W fun e w' => e = .returned (.tuple #[.int .i64 lo, .int .i64 hi, errV er]) ∧ Up W w') ∧
    (∀ W, Calls Tryz.prog 13 #[.agg #[.int .i64 a, .int .i64 a], .agg #[.int .i64 b, .int .i64 b]] W fun e w' => e = .returned (.tuple #[.agg #[.int .i64 lo, .int .i64 hi], .int .i64 (numO er)]) ∧ Up W w') := by
  have h1 := fun W => uby_any a b W
  have h2 := fun W => rby_any a a b b W ha ha hb hb (Int.le_refl _)
  rw [quo_one a b ha hb] at h1
  cases hr : quoF ⟨a, a⟩ ⟨b, b⟩ with
  | ok s =>
    rw [hr] at h1 h2
    exact ⟨s.lo, s.hi, none, h1, fun W => (h2 W).mono fun e w' ⟨x, k1, k2, k3⟩ => ⟨by rw [k2, ← k1]; rfl, k3⟩⟩
  | error n =>
    rw [hr] at h1 h2
    exact ⟨0, 0, some n, h1, fun W => (h2 W).mono fun e w' ⟨x, k1, k2, k3⟩ => ⟨by rw [k2, ← k1]; rfl, k3⟩⟩
theorem parse_both (s : List UInt8) (hs : s.length ≤ 1048576) : ∃ (n : Int) (er : Option Nat), (∀ W, Pow W → Errs W → Calls Tryz.prog 18 #[.string ⟨s.toArray⟩] W fun e w' => e = .returned (.tuple #[.int .i64 n, errV er]) ∧ Up W w') ∧
    (∀ W, Calls Tryz.prog 17 #[.string ⟨s.toArray⟩] W fun e w' => e = .returned (.tuple #[.int .i64 n, .int .i64 (numO er)]) ∧ Up W w') := by
  have h1 := fun W hp he => parse_any s hs W hp he
  have h2 := fun W => rread_any s hs W
  cases hr : parseF s with
  | error n =>
    rw [hr] at h1 h2
    exact ⟨0, some n, fun W hp he => (h1 W hp he).mono fun e w' ⟨x, k1, k2, k3⟩ => ⟨by rw [k2, ← k1]; rfl, k3⟩, fun W => (h2 W).mono fun e w' ⟨x, k1, k2, k3⟩ => ⟨by rw [k2, ← k1]; rfl, k3⟩⟩
  | ok n =>
    rw [hr] at h1 h2
    exact ⟨n, none, fun W hp he => (h1 W hp he).mono fun e w' ⟨x, k1, k2, k3⟩ => ⟨by rw [k2, ← k1]; rfl, k3⟩, fun W => (h2 W).mono fun e w' ⟨x, k1, k2, k3⟩ => ⟨by rw [k2, ← k1]; rfl, k3⟩⟩
theorem times_bad (a b : Int) (h : ¬ (M a ∧ M b)) (W : World) : Calls Tryz.prog 11 #[.int .i64 a, .int .i64 b] W fun e w' => e = .returned (.tuple #[.int .i64 0, .int .i64 0, .iface 74 (.int .i64 1)]) ∧ Up W w' := by
  have h1 := utimes_any a b W
  rw [show utimesF a b = .error 1 by unfold utimesF; rw [if_neg h]] at h1
  exact h1
theorem by_bad (a b : Int) (h : ¬ (M a ∧ M b)) (W : World) : Calls Tryz.prog 14 #[.int .i64 a, .int .i64 b] W fun e w' => e = .returned (.tuple #[.int .i64 0, .int .i64 0, .iface 74 (.int .i64 1)]) ∧ Up W w' := by
  have h1 := uby_any a b W
  rw [show ubyF a b = .error 1 by unfold ubyF; rw [if_neg h]] at h1
  exact h1
theorem print_good (a : Int) (h : -1000000000 ≤ a ∧ a ≤ 1000000000) (W : World) (hp : Pow W) : Calls Tryz.prog 16 #[.int .i64 a] W fun e w' => e = .returned (.tuple #[.string ⟨(textF a).toArray⟩, .nilIface]) ∧ Up W w' := by
  have h1 := print_any a W hp
  rw [show printF a = .ok (textF a) from if_pos h] at h1
  exact h1.mono fun e w' ⟨x, k1, k2, k3⟩ => ⟨by rw [k2, ← k1]; rfl, k3⟩
theorem print_bad (a : Int) (h : ¬ (-1000000000 ≤ a ∧ a ≤ 1000000000)) (W : World) (hp : Pow W) : Calls Tryz.prog 16 #[.int .i64 a] W fun e w' => e = .returned (.tuple #[.string ⟨#[]⟩, .iface 74 (.int .i64 1)]) ∧ Up W w' := by
  have h1 := print_any a W hp
  rw [show printF a = .error 1 from if_neg h] at h1
  exact h1.mono fun e w' ⟨x, k1, k2, k3⟩ => ⟨by rw [k2, ← k1]; rfl, k3⟩




set_option maxRecDepth 100000 in
set_option maxHeartbeats 16000000 in
theorem unitTells_walk (a b : Int) (s : List UInt8) (w : World) (_h1 : I64 a) (_h2 : I64 b) (_h3 : (⟨s.toArray⟩ : ByteArray).size ≤ maxLen) (hd : DoorT w) (bu : s.length ≤ 1048576) :
    Calls Tryz.prog 3 #[.int .i64 a, .int .i64 b, .string ⟨s.toArray⟩] w (LawEnd w) := by
  clear _h1 _h2 _h3
  have HD := hid hd.door; have HP := hid hd.pow; have HE := hid hd.errs
  obtain ⟨n4, r4, q0, q1⟩ := parse_both s bu
  have Q0 := hid q0; have R0 := hid q1
  clear hd q0 q1 bu
  by_cases ha : -1000000000 ≤ a ∧ a ≤ 1000000000
  · have HTX := hid (show -1000000000000000 ≤ a ∧ a ≤ 1000000000000000 by omega)
    have HPG := hid (print_good a ha)
    by_cases hb : -1000000000 ≤ b ∧ b ≤ 1000000000
    · obtain ⟨l1, u1, r1, t0, t1⟩ := times_both a b ⟨ha.1, ha.2⟩ ⟨hb.1, hb.2⟩
      obtain ⟨l2, u2, r2, b0, b1⟩ := by_both a b ⟨ha.1, ha.2⟩ ⟨hb.1, hb.2⟩
      have T0 := hid t0; have T1 := hid t1; have B0 := hid b0; have B1 := hid b1
      have HA := hid ha; have HB := hid hb
      clear t0 t1 b0 b1 ha hb
      go_enter Tryz.func3, Tryz.ntmps3
      go_wp2_with (first
                        | ((go_at_call 8; (with_reducible refine (rmay_yes HA.out _).mono ?_); rintro e w1 ⟨x1, rfl, rfl, hb1⟩) <;> (have hle := Up.le hb1; (try simp only [World.size_alloc, World.size_setCell, World.size_drew, World.heap_drewN] at hle); clear hle))
                        | ((go_at_call 8; (with_reducible refine (rmay_yes HB.out _).mono ?_); rintro e w2 ⟨x2, rfl, rfl, hb2⟩) <;> (have hle := Up.le hb2; (try simp only [World.size_alloc, World.size_setCell, World.size_drew, World.heap_drewN] at hle); clear hle))
                        | ((go_at_call 10; (with_reducible refine (ralone_any a _).mono ?_); rintro e w3 ⟨x3, rfl, rfl, hb3⟩) <;> (have hle := Up.le hb3; (try simp only [World.size_alloc, World.size_setCell, World.size_drew, World.heap_drewN] at hle); clear hle))
                        | ((go_at_call 10; (with_reducible refine (ralone_any b _).mono ?_); rintro e w4 ⟨x4, rfl, rfl, hb4⟩) <;> (have hle := Up.le hb4; (try simp only [World.size_alloc, World.size_setCell, World.size_drew, World.heap_drewN] at hle); clear hle))
                        | ((go_at_call 9; (with_reducible refine (T1.out _).mono ?_); rintro e w5 ⟨rfl, hb5⟩) <;> (have hle := Up.le hb5; (try simp only [World.size_alloc, World.size_setCell, World.size_drew, World.heap_drewN] at hle); clear hle))
                        | ((go_at_call 11; (with_reducible refine (T0.out _).mono ?_); rintro e w6 ⟨rfl, hb6⟩) <;> (have hle := Up.le hb6; (try simp only [World.size_alloc, World.size_setCell, World.size_drew, World.heap_drewN] at hle); clear hle))
                        | ((go_at_call 12; (with_reducible refine (serr_same r1 _ (HD.out.up (by (repeat (first | (with_reducible exact Up.refl _) | (with_reducible assumption) | (with_reducible refine Up.alloc ?_ _) | (with_reducible refine Up.drew ?_) | ((with_reducible refine Up.set ?_ ?_ _); rotate_left; focus (first | omega | (simp; done) | (simp; omega))) | (with_reducible refine Up.drewN ?_ _) | (with_reducible refine Up.call ?_ (by with_reducible assumption))))))).mono ?_); rintro e w7 ⟨rfl, hb7⟩) <;> (have hle := Up.le hb7; (try simp only [World.size_alloc, World.size_setCell, World.size_drew, World.heap_drewN] at hle); clear hle))
                        | ((go_at_call 13; (with_reducible refine (B1.out _).mono ?_); rintro e w8 ⟨rfl, hb8⟩) <;> (have hle := Up.le hb8; (try simp only [World.size_alloc, World.size_setCell, World.size_drew, World.heap_drewN] at hle); clear hle))
                        | ((go_at_call 14; (with_reducible refine (B0.out _).mono ?_); rintro e w9 ⟨rfl, hb9⟩) <;> (have hle := Up.le hb9; (try simp only [World.size_alloc, World.size_setCell, World.size_drew, World.heap_drewN] at hle); clear hle))
                        | ((go_at_call 12; (with_reducible refine (serr_same r2 _ (HD.out.up (by (repeat (first | (with_reducible exact Up.refl _) | (with_reducible assumption) | (with_reducible refine Up.alloc ?_ _) | (with_reducible refine Up.drew ?_) | ((with_reducible refine Up.set ?_ ?_ _); rotate_left; focus (first | omega | (simp; done) | (simp; omega))) | (with_reducible refine Up.drewN ?_ _) | (with_reducible refine Up.call ?_ (by with_reducible assumption))))))).mono ?_); rintro e w10 ⟨rfl, hb10⟩) <;> (have hle := Up.le hb10; (try simp only [World.size_alloc, World.size_setCell, World.size_drew, World.heap_drewN] at hle); clear hle))
                        | ((go_at_call 15; (with_reducible refine (rtext_any a _ HTX.out).mono ?_); rintro e w11 ⟨x11, rfl, rfl, hb11⟩) <;> (have hle := Up.le hb11; (try simp only [World.size_alloc, World.size_setCell, World.size_drew, World.heap_drewN] at hle); clear hle))
                        | ((go_at_call 16; (with_reducible refine (HPG.out _ (HP.out.up (by (repeat (first | (with_reducible exact Up.refl _) | (with_reducible assumption) | (with_reducible refine Up.alloc ?_ _) | (with_reducible refine Up.drew ?_) | ((with_reducible refine Up.set ?_ ?_ _); rotate_left; focus (first | omega | (simp; done) | (simp; omega))) | (with_reducible refine Up.drewN ?_ _) | (with_reducible refine Up.call ?_ (by with_reducible assumption))))))).mono ?_); rintro e w12 ⟨rfl, hb12⟩) <;> (have hle := Up.le hb12; (try simp only [World.size_alloc, World.size_setCell, World.size_drew, World.heap_drewN] at hle); clear hle))
                        | ((go_at_call 12; (with_reducible refine (serr_nil0 _ (HD.out.up (by (repeat (first | (with_reducible exact Up.refl _) | (with_reducible assumption) | (with_reducible refine Up.alloc ?_ _) | (with_reducible refine Up.drew ?_) | ((with_reducible refine Up.set ?_ ?_ _); rotate_left; focus (first | omega | (simp; done) | (simp; omega))) | (with_reducible refine Up.drewN ?_ _) | (with_reducible refine Up.call ?_ (by with_reducible assumption))))))).mono ?_); rintro e w13 ⟨rfl, hb13⟩) <;> (have hle := Up.le hb13; (try simp only [World.size_alloc, World.size_setCell, World.size_drew, World.heap_drewN] at hle); clear hle))
                        | ((go_at_call 17; (with_reducible refine (R0.out _).mono ?_); rintro e w20 ⟨rfl, hb20⟩) <;> (have hle := Up.le hb20; (try simp only [World.size_alloc, World.size_setCell, World.size_drew, World.heap_drewN] at hle); clear hle))
                        | ((go_at_call 18; (with_reducible refine (Q0.out _ (HP.out.up (by (repeat (first | (with_reducible exact Up.refl _) | (with_reducible assumption) | (with_reducible refine Up.alloc ?_ _) | (with_reducible refine Up.drew ?_) | ((with_reducible refine Up.set ?_ ?_ _); rotate_left; focus (first | omega | (simp; done) | (simp; omega))) | (with_reducible refine Up.drewN ?_ _) | (with_reducible refine Up.call ?_ (by with_reducible assumption)))))) (HE.out.up (by (repeat (first | (with_reducible exact Up.refl _) | (with_reducible assumption) | (with_reducible refine Up.alloc ?_ _) | (with_reducible refine Up.drew ?_) | ((with_reducible refine Up.set ?_ ?_ _); rotate_left; focus (first | omega | (simp; done) | (simp; omega))) | (with_reducible refine Up.drewN ?_ _) | (with_reducible refine Up.call ?_ (by with_reducible assumption))))))).mono ?_); rintro e w21 ⟨rfl, hb21⟩) <;> (have hle := Up.le hb21; (try simp only [World.size_alloc, World.size_setCell, World.size_drew, World.heap_drewN] at hle); clear hle))
                        | ((go_at_call 12; (with_reducible refine (serr_same r4 _ (HD.out.up (by (repeat (first | (with_reducible exact Up.refl _) | (with_reducible assumption) | (with_reducible refine Up.alloc ?_ _) | (with_reducible refine Up.drew ?_) | ((with_reducible refine Up.set ?_ ?_ _); rotate_left; focus (first | omega | (simp; done) | (simp; omega))) | (with_reducible refine Up.drewN ?_ _) | (with_reducible refine Up.call ?_ (by with_reducible assumption))))))).mono ?_); rintro e w22 ⟨rfl, hb22⟩) <;> (have hle := Up.le hb22; (try simp only [World.size_alloc, World.size_setCell, World.size_drew, World.heap_drewN] at hle); clear hle)))
      go_ret
      exact LawEnd.mk (by first | rfl | (simp; done)) (by (repeat (first | (with_reducible exact Up.refl _) | (with_reducible assumption) | (with_reducible refine Up.alloc ?_ _) | (with_reducible refine Up.drew ?_) | ((with_reducible refine Up.set ?_ ?_ _); rotate_left; focus (first | omega | (simp; done) | (simp; omega))) | (with_reducible refine Up.drewN ?_ _) | (with_reducible refine Up.call ?_ (by with_reducible assumption)))))
    · have HTB := hid (times_bad a b (fun k => hb ⟨k.2.1, k.2.2⟩))
      have HBB := hid (by_bad a b (fun k => hb ⟨k.2.1, k.2.2⟩))
      have HA := hid ha; have HB := hid hb
      clear ha hb
      go_enter Tryz.func3, Tryz.ntmps3
      go_wp2_with (first
                        | ((go_at_call 8; (with_reducible refine (rmay_yes HA.out _).mono ?_); rintro e w1 ⟨x1, rfl, rfl, hb1⟩) <;> (have hle := Up.le hb1; (try simp only [World.size_alloc, World.size_setCell, World.size_drew, World.heap_drewN] at hle); clear hle))
                        | ((go_at_call 8; (with_reducible refine (rmay_no HB.out _).mono ?_); rintro e w2 ⟨x2, rfl, rfl, hb2⟩) <;> (have hle := Up.le hb2; (try simp only [World.size_alloc, World.size_setCell, World.size_drew, World.heap_drewN] at hle); clear hle))
                        | ((go_at_call 11; (with_reducible refine (HTB.out _).mono ?_); rintro e w5 ⟨rfl, hb5⟩) <;> (have hle := Up.le hb5; (try simp only [World.size_alloc, World.size_setCell, World.size_drew, World.heap_drewN] at hle); clear hle))
                        | ((go_at_call 14; (with_reducible refine (HBB.out _).mono ?_); rintro e w6 ⟨rfl, hb6⟩) <;> (have hle := Up.le hb6; (try simp only [World.size_alloc, World.size_setCell, World.size_drew, World.heap_drewN] at hle); clear hle))
                        | ((go_at_call 12; (with_reducible refine (serr_self 1 _ (HD.out.up (by (repeat (first | (with_reducible exact Up.refl _) | (with_reducible assumption) | (with_reducible refine Up.alloc ?_ _) | (with_reducible refine Up.drew ?_) | ((with_reducible refine Up.set ?_ ?_ _); rotate_left; focus (first | omega | (simp; done) | (simp; omega))) | (with_reducible refine Up.drewN ?_ _) | (with_reducible refine Up.call ?_ (by with_reducible assumption))))))).mono ?_); rintro e w7 ⟨rfl, hb7⟩) <;> (have hle := Up.le hb7; (try simp only [World.size_alloc, World.size_setCell, World.size_drew, World.heap_drewN] at hle); clear hle))
                        | ((go_at_call 15; (with_reducible refine (rtext_any a _ HTX.out).mono ?_); rintro e w11 ⟨x11, rfl, rfl, hb11⟩) <;> (have hle := Up.le hb11; (try simp only [World.size_alloc, World.size_setCell, World.size_drew, World.heap_drewN] at hle); clear hle))
                        | ((go_at_call 16; (with_reducible refine (HPG.out _ (HP.out.up (by (repeat (first | (with_reducible exact Up.refl _) | (with_reducible assumption) | (with_reducible refine Up.alloc ?_ _) | (with_reducible refine Up.drew ?_) | ((with_reducible refine Up.set ?_ ?_ _); rotate_left; focus (first | omega | (simp; done) | (simp; omega))) | (with_reducible refine Up.drewN ?_ _) | (with_reducible refine Up.call ?_ (by with_reducible assumption))))))).mono ?_); rintro e w12 ⟨rfl, hb12⟩) <;> (have hle := Up.le hb12; (try simp only [World.size_alloc, World.size_setCell, World.size_drew, World.heap_drewN] at hle); clear hle))
                        | ((go_at_call 12; (with_reducible refine (serr_nil0 _ (HD.out.up (by (repeat (first | (with_reducible exact Up.refl _) | (with_reducible assumption) | (with_reducible refine Up.alloc ?_ _) | (with_reducible refine Up.drew ?_) | ((with_reducible refine Up.set ?_ ?_ _); rotate_left; focus (first | omega | (simp; done) | (simp; omega))) | (with_reducible refine Up.drewN ?_ _) | (with_reducible refine Up.call ?_ (by with_reducible assumption))))))).mono ?_); rintro e w13 ⟨rfl, hb13⟩) <;> (have hle := Up.le hb13; (try simp only [World.size_alloc, World.size_setCell, World.size_drew, World.heap_drewN] at hle); clear hle))
                        | ((go_at_call 17; (with_reducible refine (R0.out _).mono ?_); rintro e w20 ⟨rfl, hb20⟩) <;> (have hle := Up.le hb20; (try simp only [World.size_alloc, World.size_setCell, World.size_drew, World.heap_drewN] at hle); clear hle))
                        | ((go_at_call 18; (with_reducible refine (Q0.out _ (HP.out.up (by (repeat (first | (with_reducible exact Up.refl _) | (with_reducible assumption) | (with_reducible refine Up.alloc ?_ _) | (with_reducible refine Up.drew ?_) | ((with_reducible refine Up.set ?_ ?_ _); rotate_left; focus (first | omega | (simp; done) | (simp; omega))) | (with_reducible refine Up.drewN ?_ _) | (with_reducible refine Up.call ?_ (by with_reducible assumption)))))) (HE.out.up (by (repeat (first | (with_reducible exact Up.refl _) | (with_reducible assumption) | (with_reducible refine Up.alloc ?_ _) | (with_reducible refine Up.drew ?_) | ((with_reducible refine Up.set ?_ ?_ _); rotate_left; focus (first | omega | (simp; done) | (simp; omega))) | (with_reducible refine Up.drewN ?_ _) | (with_reducible refine Up.call ?_ (by with_reducible assumption))))))).mono ?_); rintro e w21 ⟨rfl, hb21⟩) <;> (have hle := Up.le hb21; (try simp only [World.size_alloc, World.size_setCell, World.size_drew, World.heap_drewN] at hle); clear hle))
                        | ((go_at_call 12; (with_reducible refine (serr_same r4 _ (HD.out.up (by (repeat (first | (with_reducible exact Up.refl _) | (with_reducible assumption) | (with_reducible refine Up.alloc ?_ _) | (with_reducible refine Up.drew ?_) | ((with_reducible refine Up.set ?_ ?_ _); rotate_left; focus (first | omega | (simp; done) | (simp; omega))) | (with_reducible refine Up.drewN ?_ _) | (with_reducible refine Up.call ?_ (by with_reducible assumption))))))).mono ?_); rintro e w22 ⟨rfl, hb22⟩) <;> (have hle := Up.le hb22; (try simp only [World.size_alloc, World.size_setCell, World.size_drew, World.heap_drewN] at hle); clear hle)))
      go_ret
      exact LawEnd.mk (by first | rfl | (simp; done)) (by (repeat (first | (with_reducible exact Up.refl _) | (with_reducible assumption) | (with_reducible refine Up.alloc ?_ _) | (with_reducible refine Up.drew ?_) | ((with_reducible refine Up.set ?_ ?_ _); rotate_left; focus (first | omega | (simp; done) | (simp; omega))) | (with_reducible refine Up.drewN ?_ _) | (with_reducible refine Up.call ?_ (by with_reducible assumption)))))
  · have HTB := hid (times_bad a b (fun k => ha ⟨k.1.1, k.1.2⟩))
    have HBB := hid (by_bad a b (fun k => ha ⟨k.1.1, k.1.2⟩))
    have HPB := hid (print_bad a ha)
    have HA := hid ha
    clear ha
    by_cases hb : -1000000000 ≤ b ∧ b ≤ 1000000000
    all_goals
      have HB := hid hb
      clear hb
      go_enter Tryz.func3, Tryz.ntmps3
      go_wp2_with (first
                        | ((go_at_call 8; (with_reducible refine (rmay_no HA.out _).mono ?_); rintro e w1 ⟨x1, rfl, rfl, hb1⟩) <;> (have hle := Up.le hb1; (try simp only [World.size_alloc, World.size_setCell, World.size_drew, World.heap_drewN] at hle); clear hle))
                        | ((go_at_call 8; (with_reducible refine (rmay_yes HB.out _).mono ?_); rintro e w2 ⟨x2, rfl, rfl, hb2⟩) <;> (have hle := Up.le hb2; (try simp only [World.size_alloc, World.size_setCell, World.size_drew, World.heap_drewN] at hle); clear hle))
                        | ((go_at_call 8; (with_reducible refine (rmay_no HB.out _).mono ?_); rintro e w3 ⟨x3, rfl, rfl, hb3⟩) <;> (have hle := Up.le hb3; (try simp only [World.size_alloc, World.size_setCell, World.size_drew, World.heap_drewN] at hle); clear hle))
                        | ((go_at_call 11; (with_reducible refine (HTB.out _).mono ?_); rintro e w5 ⟨rfl, hb5⟩) <;> (have hle := Up.le hb5; (try simp only [World.size_alloc, World.size_setCell, World.size_drew, World.heap_drewN] at hle); clear hle))
                        | ((go_at_call 14; (with_reducible refine (HBB.out _).mono ?_); rintro e w6 ⟨rfl, hb6⟩) <;> (have hle := Up.le hb6; (try simp only [World.size_alloc, World.size_setCell, World.size_drew, World.heap_drewN] at hle); clear hle))
                        | ((go_at_call 12; (with_reducible refine (serr_self 1 _ (HD.out.up (by (repeat (first | (with_reducible exact Up.refl _) | (with_reducible assumption) | (with_reducible refine Up.alloc ?_ _) | (with_reducible refine Up.drew ?_) | ((with_reducible refine Up.set ?_ ?_ _); rotate_left; focus (first | omega | (simp; done) | (simp; omega))) | (with_reducible refine Up.drewN ?_ _) | (with_reducible refine Up.call ?_ (by with_reducible assumption))))))).mono ?_); rintro e w7 ⟨rfl, hb7⟩) <;> (have hle := Up.le hb7; (try simp only [World.size_alloc, World.size_setCell, World.size_drew, World.heap_drewN] at hle); clear hle))
                        | ((go_at_call 16; (with_reducible refine (HPB.out _ (HP.out.up (by (repeat (first | (with_reducible exact Up.refl _) | (with_reducible assumption) | (with_reducible refine Up.alloc ?_ _) | (with_reducible refine Up.drew ?_) | ((with_reducible refine Up.set ?_ ?_ _); rotate_left; focus (first | omega | (simp; done) | (simp; omega))) | (with_reducible refine Up.drewN ?_ _) | (with_reducible refine Up.call ?_ (by with_reducible assumption))))))).mono ?_); rintro e w12 ⟨rfl, hb12⟩) <;> (have hle := Up.le hb12; (try simp only [World.size_alloc, World.size_setCell, World.size_drew, World.heap_drewN] at hle); clear hle))
                        | ((go_at_call 17; (with_reducible refine (R0.out _).mono ?_); rintro e w20 ⟨rfl, hb20⟩) <;> (have hle := Up.le hb20; (try simp only [World.size_alloc, World.size_setCell, World.size_drew, World.heap_drewN] at hle); clear hle))
                        | ((go_at_call 18; (with_reducible refine (Q0.out _ (HP.out.up (by (repeat (first | (with_reducible exact Up.refl _) | (with_reducible assumption) | (with_reducible refine Up.alloc ?_ _) | (with_reducible refine Up.drew ?_) | ((with_reducible refine Up.set ?_ ?_ _); rotate_left; focus (first | omega | (simp; done) | (simp; omega))) | (with_reducible refine Up.drewN ?_ _) | (with_reducible refine Up.call ?_ (by with_reducible assumption)))))) (HE.out.up (by (repeat (first | (with_reducible exact Up.refl _) | (with_reducible assumption) | (with_reducible refine Up.alloc ?_ _) | (with_reducible refine Up.drew ?_) | ((with_reducible refine Up.set ?_ ?_ _); rotate_left; focus (first | omega | (simp; done) | (simp; omega))) | (with_reducible refine Up.drewN ?_ _) | (with_reducible refine Up.call ?_ (by with_reducible assumption))))))).mono ?_); rintro e w21 ⟨rfl, hb21⟩) <;> (have hle := Up.le hb21; (try simp only [World.size_alloc, World.size_setCell, World.size_drew, World.heap_drewN] at hle); clear hle))
                        | ((go_at_call 12; (with_reducible refine (serr_same r4 _ (HD.out.up (by (repeat (first | (with_reducible exact Up.refl _) | (with_reducible assumption) | (with_reducible refine Up.alloc ?_ _) | (with_reducible refine Up.drew ?_) | ((with_reducible refine Up.set ?_ ?_ _); rotate_left; focus (first | omega | (simp; done) | (simp; omega))) | (with_reducible refine Up.drewN ?_ _) | (with_reducible refine Up.call ?_ (by with_reducible assumption))))))).mono ?_); rintro e w22 ⟨rfl, hb22⟩) <;> (have hle := Up.le hb22; (try simp only [World.size_alloc, World.size_setCell, World.size_drew, World.heap_drewN] at hle); clear hle)))
      go_ret
      exact LawEnd.mk (by first | rfl | (simp; done)) (by (repeat (first | (with_reducible exact Up.refl _) | (with_reducible assumption) | (with_reducible refine Up.alloc ?_ _) | (with_reducible refine Up.drew ?_) | ((with_reducible refine Up.set ?_ ?_ _); rotate_left; focus (first | omega | (simp; done) | (simp; omega))) | (with_reducible refine Up.drewN ?_ _) | (with_reducible refine Up.call ?_ (by with_reducible assumption)))))
set_option maxRecDepth 100000 in
theorem unitTells_lifted (os : Os) (started : os.Started) (H : Type) (enc : TypeId × Value → H) (F : Stop.Interp) :
    ReturnsInHanded {} Tryz.checked os 3 .any (fun w args => ((Rows.OpenSpec.upto Rows.unitTellsSpec).pre enc Tryz.prog Tryz.f3 [] false w args ∧ laidMetH Tryz.prog laidU6 w) ∧ sizedMet enc Tryz.prog Tryz.f3 (Rows.OpenSpec.upto Rows.unitTellsSpec) false w args) (((Rows.OpenSpec.upto Rows.unitTellsSpec).at F).post enc Tryz.prog Tryz.f3 false true false false) := by
  refine lift_cond_and (C := Tryz.checked) (s := (Rows.OpenSpec.upto Rows.unitTellsSpec)) (k := Rows.uptoSmall) rfl (X := fun w _ => laidMetH Tryz.prog laidU6 w) (fun _ _ _ hh h => h.of_heap hh) Tryz.own started (by kernel_rfl) Tryz.func3
    (witness_cond_at (enc := enc) (C := Tryz.checked) (os := os) (s := (Rows.OpenSpec.upto Rows.unitTellsSpec)) (k := Rows.uptoSmall) rfl (X := fun w _ => laidMetH Tryz.prog laidU6 w) false (laidWorldT os) #[.int .i64 0, .int .i64 0, .string ⟨#[]⟩] 8 rfl (by kernel_rfl) (by kernel_rfl) (by kernel_rfl) (x := ([.lit (.int .i64 0), .lit (.int .i64 0), .lit (.string [])], [], [])) (by kernel_rfl) rfl (by kernel_rfl) (sizedMet_of_sizedB (s := Rows.unitTellsSpec) (fuel := 8) (by kernel_rfl)) (laidWorldT_met os _)) ?_
  intro W base args ds gs before hval0 hW _ hk hL _
  have hdoor := doorT_of_laid hL
  have hval : ∀ (j : Nat) t v, Tryz.f3.params[j]? = some t → args[j]? = some v → Value.okWide Tryz.prog W .any base t v := hval0
  have hW' := hW
  obtain ⟨p, q, hA0, hV, rfl, hfz, hnd⟩ := hW
  have hA : DataW.TrodAll enc Tryz.prog W 0 (fun _ => true) true Tryz.f3.params.toList args.toList ds p := hA0
  rw [Tryz.params3] at hA hval
  obtain ⟨v0, v1, v2, d0, d1, d2, p0, p1, p2, rfl, rfl, rfl, h0, h1, h2⟩ := trodAll_three hA
  obtain ⟨rfl, rfl⟩ := trodVars_none hV
  obtain ⟨n0, rfl, w0⟩ := open_i64 Tryz.underlying3 (hval 0 3 _ rfl rfl) h0
  obtain ⟨n1, rfl, w1⟩ := open_i64 Tryz.underlying3 (hval 1 3 _ rfl rfl) h1
  obtain ⟨z2, rfl, e2, f2, w2⟩ := Go.ChangeMaps.open_string Tryz.underlying9 (hval 2 9 _ rfl rfl) h2
  obtain ⟨l2, rfl⟩ : ∃ l : List UInt8, z2 = ⟨l.toArray⟩ := ⟨z2.data.toList, by cases z2; rfl⟩
  (try subst e2)
  have hsm : Rows.uptoBulkAll _ ≤ 1048576 := of_decide_eq_true hk
  simp only [List.append_nil, Rows.uptoBulkAll] at hsm
  have bu2 : l2.length ≤ 1048576 := by have h9 := hsm; simp [Rows.uptoBulk] at h9; omega
  clear hA0 hval0
  refine (unitTells_walk n0 n1 l2 W w0 w1 w2 hdoor bu2).mono fun e W' ⟨he, hu⟩ => ?_
  subst he
  exact ⟨_, rfl, law_post Tryz.laidOut rfl rfl Tryz.underlying4 (fun t ht => by simp [Tryz.params3] at ht; (try rcases ht with rfl | rfl); all_goals (first | (subst ht; exact ⟨by kernel_rfl, of_decide_eq_true (by kernel_rfl)⟩) | exact ⟨by kernel_rfl, of_decide_eq_true (by kernel_rfl)⟩)) hW' rfl rfl rfl hu⟩
theorem unitTells_k1 : (Rows.unitTellsUptoRow.inPlace == Tryz.pinned.checked.prog.inPlace 3) = true := by kernel_rfl
theorem unitTells_k2 : (Rows.unitTellsUptoRow.unfollowed == Tryz.pinned.checked.prog.unfollowed 3) = true := by kernel_rfl
theorem unitTells_k3 : (Rows.unitTellsUptoRow.recurses == Tryz.pinned.checked.prog.recurses 3) = true := by kernel_rfl
theorem unitTells_k4 : (Rows.unitTellsUptoRow.named == Tryz.pinned.checked.prog.varsNamed 3) = true := by kernel_rfl
theorem unitTells_facts : joinedFacts Tryz.pinned.checked.prog 3 Tryz.f3 (Rows.OpenSpec.upto Rows.unitTellsSpec).bare Rows.unitTellsUptoRow = true :=
  joined_of _ _ _ _ _ Tryz.g1 Tryz.g2 Tryz.g3 Tryz.g4 Tryz.g5 Tryz.g6 Tryz.g7 Tryz.g8 Tryz.g9 unitTells_k1 unitTells_k2 unitTells_k3 unitTells_k4 (by kernel_rfl)
theorem unitTells_bare : Rows.UnitTellsUptoSaid :=
  OpenClaim.holds_of_cond 3 Tryz.f3 rfl rfl rfl rfl rfl rfl rfl ⟨rfl, rfl, rfl, rfl, rfl⟩ rfl rfl rfl rfl rfl (by kernel_rfl) Tryz.func3 unitTells_facts
    (of_decide_eq_true (by kernel_rfl)) (by unfold Func.isWrapper; rw [if_neg (by decide +kernel)]; exact ⟨rfl, rfl⟩)
    (fun os started H enc _ F => unitTells_lifted os started H enc F)
theorem unitTells_holds : Rows.UnitTellsUptoCardSaid :=
  Claim7.holds_tied_plain_at .later [] [.data, .data, .data, .handle, .sentinel, .sentinel] true (true, "7541a4b10e5a870dcee6297c57c84f3c6ed26500fe45205808b4d9de7145fdb0") true unitTells_bare (fun _ h => by cases h) (by kernel_rfl) (fun _ h => by cases h) unitTellsUpto_row_tie rfl ⟨rfl, rfl⟩ door_main rfl
    (fun f fn hf hfn => by
      obtain rfl : f = 3 := Option.some.inj ((show Tryz.prog.funcNamed "spanmeadow/spanlaw1.UnitTells" = some 3 by kernel_rfl).symm.trans hf) |>.symm
      obtain rfl : fn = Tryz.f3 := (Option.some.inj (Tryz.func3.symm.trans hfn)).symm
      exact ⟨door_looks.symm, fun j t ht => by
        rw [Tryz.params3] at ht
        have hm : t ∈ [3, 9] := by
          have := Array.mem_of_getElem? ht
          simpa using this
        simp only [List.mem_cons, List.not_mem_nil, or_false] at hm
        rcases hm with rfl | rfl
        · exact (show Tryz.prog.wantsStandIn 3 = false by kernel_rfl)
        · exact (show Tryz.prog.wantsStandIn 9 = false by kernel_rfl)⟩)
    (by kernel_rfl)
#print axioms unitTells_holds
end Go.Proofs.YtmjcnpolnknkkaaGreatDoor
