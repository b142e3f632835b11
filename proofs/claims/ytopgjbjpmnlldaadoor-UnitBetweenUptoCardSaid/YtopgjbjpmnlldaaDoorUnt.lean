/- The walks of package unit: Text, Parse, Print: a number as text, a text as a number. -/
import Derived.Test.YtopgjbjpmnlldaaDoorUtx
import Derived.Test.YtopgjbjpmnlldaaDoorBase
import Derived.Test.YtopgjbjpmnlldaaDoorSpan
import Derived.Test.YtopgjbjpmnlldaaDoorShf
import Derived.Test.YtopgjbjpmnlldaaDoorPow
import Derived.Lib.Bytealg
import Derived.Lib.AtoiAllCases
import Derived.BigRegion
import Derived.RegionTactic
import Derived.Deep.RegionLaw

set_option linter.unusedVariables false
set_option linter.unusedSimpArgs false
namespace Go.Proofs.YtopgjbjpmnlldaaDoor
open Go.RowKit

theorem itoa_nat (m : Nat) : Lib.itoa (m : Int) = Lib.decDigits m := by
  unfold Lib.itoa
  rw [if_neg (by omega)]
  rfl
theorem dd_len : ∀ (k u : Nat), u < 10 ^ (k + 1) → (Lib.decDigits u).length ≤ k + 1 := by
  intro k
  induction k with
  | zero => intro u hu; rw [dd_small (by omega)]; simp
  | succ k ih =>
    intro u hu
    by_cases h1 : u < 10
    · rw [dd_small h1]; simp
    · rw [dd_big h1]
      have := ih (u / 10) (by rw [Nat.pow_succ] at hu; omega)
      simp; omega
theorem rep_any (c : Nat) (k : Int) (hk : k = (c : Int)) (hc : c ≤ 3) (w : World) : Calls Tryd.prog 71 #[.string ⟨#[48]⟩, .int .i64 k] w (RetX strV (List.replicate c 48) w) := by
  subst hk
  refine (Tryd.strings_Repeat ⟨#[48]⟩ c w (by omega) (by show 1 * c ≤ _; omega)).mono fun e w' h => ⟨_, rfl, ?_, h.2⟩
  rw [h.1]
  have : ∀ c, Lib.repeatL [48] c = List.replicate c 48 := fun c => by
    induction c with
    | zero => rfl
    | succ c ih => show [48] ++ Lib.repeatL [48] c = _; rw [ih]; rfl
  exact congrArg (fun l : List UInt8 => Ending.returned (.string ⟨l.toArray⟩)) (this c)
theorem dig_any (m : Nat) (k : Int) (hk : k = (m : Int)) (w : World) (h : m ≤ 1000000000000000) (hp : Pow w) : Calls Tryd.prog 61 #[.int .i64 k] w (RetX strV (Lib.decDigits m) w) := by
  subst hk
  have h1 := itoa_any (m : Int) w ⟨by omega, by omega⟩ hp
  rw [itoa_nat] at h1
  exact h1


theorem text_nat (m : Nat) : textF (m : Int) = Lib.decDigits (m / 1000) ++ 46 :: (List.replicate (3 - (Lib.decDigits (m % 1000)).length) 48 ++ Lib.decDigits (m % 1000)) := by
  unfold textF
  rw [if_neg (by omega)]
  rfl
theorem text_minus (m : Nat) (h : 0 < m) : textF (-(m : Int)) = 45 :: (Lib.decDigits (m / 1000) ++ 46 :: (List.replicate (3 - (Lib.decDigits (m % 1000)).length) 48 ++ Lib.decDigits (m % 1000))) := by
  unfold textF
  rw [if_pos (by omega), Int.natAbs_neg]
  rfl
set_option maxRecDepth 100000 in
set_option maxHeartbeats 4000000 in
theorem text_pos (m : Nat) (w : World) (hm : m ≤ 1000000000000000) (hp : Pow w) : Calls Tryd.prog 51 #[.int .i64 (m : Int)] w (RetX strV (textF (m : Int)) w) := by
  obtain ⟨a, ha⟩ : ∃ a, Lib.decDigits (m / 1000) = a := ⟨_, rfl⟩
  obtain ⟨r, hr⟩ : ∃ r, Lib.decDigits (m % 1000) = r := ⟨_, rfl⟩
  have la := dd_len 15 (m / 1000) (by omega)
  have lr := dd_len 2 (m % 1000) (by omega)
  rw [ha] at la
  rw [hr] at lr
  have HA := hid ha; have HR := hid hr; have HP := hid hp
  have HQ1 := hid (show (m : Int) / 1000 = ((m / 1000 : Nat) : Int) by omega)
  have HT1 := hid (show (m : Int) % 1000 = ((m % 1000 : Nat) : Int) by omega)
  have hk : (3 : Int) - (r.length : Int) = ((3 - r.length : Nat) : Int) := by omega
  have HQ := hid (show m / 1000 ≤ 1000000000000000 by omega); have HT := hid (show m % 1000 ≤ 1000000000000000 by omega); have HK := hid hk
  have hd : decide ((m : Int) < 0) = false := decide_eq_false (by omega)
  have hmi : (m : Int) ≤ 1000000000000000 := by omega
  have hm0 : (0 : Int) ≤ (m : Int) := by omega
  clear ha hr hp hm
  go_enter Tryd.func51, Tryd.ntmps51
  go_wp2_with (first
                        | ((go_at_call 61; (with_reducible refine (dig_any (m % 1000) _ HT1.out _ HT.out (HP.out.up (by (repeat (first | (with_reducible exact Up.refl _) | (with_reducible assumption) | (with_reducible refine Up.alloc ?_ _) | (with_reducible refine Up.drew ?_) | ((with_reducible refine Up.set ?_ ?_ _); rotate_left; focus (first | omega | (simp; done) | (simp; omega))) | (with_reducible refine Up.drewN ?_ _) | (with_reducible refine Up.call ?_ (by with_reducible assumption))))))).mono ?_); rintro e w1 ⟨x1, rfl, rfl, hb1⟩ <;> (rw [HR.out])) <;> (have hle := Up.le hb1; (try simp only [World.size_alloc, World.size_setCell, World.size_drew, World.heap_drewN] at hle); clear hle))
                        | ((go_at_call 61; (with_reducible refine (dig_any (m / 1000) _ HQ1.out _ HQ.out (HP.out.up (by (repeat (first | (with_reducible exact Up.refl _) | (with_reducible assumption) | (with_reducible refine Up.alloc ?_ _) | (with_reducible refine Up.drew ?_) | ((with_reducible refine Up.set ?_ ?_ _); rotate_left; focus (first | omega | (simp; done) | (simp; omega))) | (with_reducible refine Up.drewN ?_ _) | (with_reducible refine Up.call ?_ (by with_reducible assumption))))))).mono ?_); rintro e w2 ⟨x2, rfl, rfl, hb2⟩ <;> (rw [HA.out])) <;> (have hle := Up.le hb2; (try simp only [World.size_alloc, World.size_setCell, World.size_drew, World.heap_drewN] at hle); clear hle))
                        | ((go_at_call 71; (with_reducible refine (rep_any (3 - r.length) _ rfl (by omega) _).mono ?_); rintro e w3 ⟨x3, rfl, rfl, hb3⟩) <;> (have hle := Up.le hb3; (try simp only [World.size_alloc, World.size_setCell, World.size_drew, World.heap_drewN] at hle); clear hle)))
  go_ret
  refine RetX.same (by (repeat (first | (with_reducible exact Up.refl _) | (with_reducible assumption) | (with_reducible refine Up.alloc ?_ _) | (with_reducible refine Up.drew ?_) | ((with_reducible refine Up.set ?_ ?_ _); rotate_left; focus (first | omega | (simp; done) | (simp; omega))) | (with_reducible refine Up.drewN ?_ _) | (with_reducible refine Up.call ?_ (by with_reducible assumption))))) (congrArg Value.string ?_)
  apply ByteArray.ext
  rw [text_nat, HA.out, HR.out]
  simp
set_option maxRecDepth 100000 in
set_option maxHeartbeats 4000000 in
theorem text_neg (m : Nat) (w : World) (h0 : 0 < m) (hm : m ≤ 1000000000000000) (hp : Pow w) : Calls Tryd.prog 51 #[.int .i64 (-(m : Int))] w (RetX strV (textF (-(m : Int))) w) := by
  obtain ⟨a, ha⟩ : ∃ a, Lib.decDigits (m / 1000) = a := ⟨_, rfl⟩
  obtain ⟨r, hr⟩ : ∃ r, Lib.decDigits (m % 1000) = r := ⟨_, rfl⟩
  have la := dd_len 15 (m / 1000) (by omega)
  have lr := dd_len 2 (m % 1000) (by omega)
  rw [ha] at la
  rw [hr] at lr
  have HA := hid ha; have HR := hid hr; have HP := hid hp
  have HQ1 := hid (show (m : Int) / 1000 = ((m / 1000 : Nat) : Int) by omega)
  have HT1 := hid (show (m : Int) % 1000 = ((m % 1000 : Nat) : Int) by omega)
  have hk : (3 : Int) - (r.length : Int) = ((3 - r.length : Nat) : Int) := by omega
  have HQ := hid (show m / 1000 ≤ 1000000000000000 by omega); have HT := hid (show m % 1000 ≤ 1000000000000000 by omega); have HK := hid hk
  have H0 := hid h0
  have hd : decide (-(m : Int) < 0) = true := decide_eq_true (by omega)
  have hd2 : (-(m : Int) < 0) := by omega
  have hmi : (m : Int) ≤ 1000000000000000 := by omega
  have hm0 : (0 : Int) < (m : Int) := by omega
  clear ha hr hp hm
  go_enter Tryd.func51, Tryd.ntmps51
  go_wp2_with (first
                        | ((go_at_call 61; (with_reducible refine (dig_any (m % 1000) _ HT1.out _ HT.out (HP.out.up (by (repeat (first | (with_reducible exact Up.refl _) | (with_reducible assumption) | (with_reducible refine Up.alloc ?_ _) | (with_reducible refine Up.drew ?_) | ((with_reducible refine Up.set ?_ ?_ _); rotate_left; focus (first | omega | (simp; done) | (simp; omega))) | (with_reducible refine Up.drewN ?_ _) | (with_reducible refine Up.call ?_ (by with_reducible assumption))))))).mono ?_); rintro e w1 ⟨x1, rfl, rfl, hb1⟩ <;> (rw [HR.out])) <;> (have hle := Up.le hb1; (try simp only [World.size_alloc, World.size_setCell, World.size_drew, World.heap_drewN] at hle); clear hle))
                        | ((go_at_call 61; (with_reducible refine (dig_any (m / 1000) _ HQ1.out _ HQ.out (HP.out.up (by (repeat (first | (with_reducible exact Up.refl _) | (with_reducible assumption) | (with_reducible refine Up.alloc ?_ _) | (with_reducible refine Up.drew ?_) | ((with_reducible refine Up.set ?_ ?_ _); rotate_left; focus (first | omega | (simp; done) | (simp; omega))) | (with_reducible refine Up.drewN ?_ _) | (with_reducible refine Up.call ?_ (by with_reducible assumption))))))).mono ?_); rintro e w2 ⟨x2, rfl, rfl, hb2⟩ <;> (rw [HA.out])) <;> (have hle := Up.le hb2; (try simp only [World.size_alloc, World.size_setCell, World.size_drew, World.heap_drewN] at hle); clear hle))
                        | ((go_at_call 71; (with_reducible refine (rep_any (3 - r.length) _ rfl (by omega) _).mono ?_); rintro e w3 ⟨x3, rfl, rfl, hb3⟩) <;> (have hle := Up.le hb3; (try simp only [World.size_alloc, World.size_setCell, World.size_drew, World.heap_drewN] at hle); clear hle)))
  go_ret
  refine RetX.same (by (repeat (first | (with_reducible exact Up.refl _) | (with_reducible assumption) | (with_reducible refine Up.alloc ?_ _) | (with_reducible refine Up.drew ?_) | ((with_reducible refine Up.set ?_ ?_ _); rotate_left; focus (first | omega | (simp; done) | (simp; omega))) | (with_reducible refine Up.drewN ?_ _) | (with_reducible refine Up.call ?_ (by with_reducible assumption))))) (congrArg Value.string ?_)
  apply ByteArray.ext
  rw [text_minus m H0.out, HA.out, HR.out]
  simp
theorem text_any (n : Int) (w : World) (hn : -1000000000000000 ≤ n ∧ n ≤ 1000000000000000) (hp : Pow w) : Calls Tryd.prog 51 #[.int .i64 n] w (RetX strV (textF n) w) := by
  by_cases h : n < 0
  · obtain ⟨m, rfl⟩ : ∃ m : Nat, n = -(m : Int) := ⟨n.natAbs, by omega⟩
    exact text_neg m w (by omega) (by omega) hp
  · obtain ⟨m, rfl⟩ : ∃ m : Nat, n = (m : Int) := ⟨n.natAbs, by omega⟩
    exact text_pos m w (by omega) hp
/-- A number printed. -/
def printF (n : Int) : Except Nat (List UInt8) := if -1000000000 ≤ n ∧ n ≤ 1000000000 then .ok (textF n) else .error 1
def prR : Except Nat (List UInt8) → Value
  | .ok s => .tuple #[strV s, .nilIface]
  | .error e => .tuple #[.string ⟨#[]⟩, .iface 62 (.int .i64 e)]
theorem may_yes {n : Int} (h : -1000000000 ≤ n ∧ n ≤ 1000000000) (w : World) : Calls Tryd.prog 34 #[.int .i64 n] w (RetX boolV true w) :=
  (may_any n w).mono fun e w' k => ⟨_, rfl, by rw [k.1]; exact congrArg (fun b => Ending.returned (.bool b)) (by simp [mayB]; omega), by rw [← k.2]; exact Up.refl _⟩
theorem may_no {n : Int} (h : ¬ (-1000000000 ≤ n ∧ n ≤ 1000000000)) (w : World) : Calls Tryd.prog 34 #[.int .i64 n] w (RetX boolV false w) :=
  (may_any n w).mono fun e w' k => ⟨_, rfl, by rw [k.1]; exact congrArg (fun b => Ending.returned (.bool b)) (by simp [mayB]; omega), by rw [← k.2]; exact Up.refl _⟩
set_option maxRecDepth 100000 in
set_option maxHeartbeats 4000000 in
theorem print_any (n : Int) (w : World) (hp : Pow w) : Calls Tryd.prog 28 #[.int .i64 n] w (RetX prR (printF n) w) := by
  by_cases h : -1000000000 ≤ n ∧ n ≤ 1000000000
  · have e : printF n = .ok (textF n) := if_pos h
    rw [e]
    have HP := hid hp; have HM := hid h; have HB := hid (show -1000000000000000 ≤ n ∧ n ≤ 1000000000000000 by omega)
    clear e h hp
    go_enter Tryd.func28, Tryd.ntmps28
    go_wp2_with (first
                        | ((go_at_call 34; (with_reducible refine (may_yes HM.out _).mono ?_); rintro e w1 ⟨x1, rfl, rfl, hb1⟩) <;> (have hle := Up.le hb1; (try simp only [World.size_alloc, World.size_setCell, World.size_drew, World.heap_drewN] at hle); clear hle))
                        | ((go_at_call 51; (with_reducible refine (text_any n _ HB.out (HP.out.up (by (repeat (first | (with_reducible exact Up.refl _) | (with_reducible assumption) | (with_reducible refine Up.alloc ?_ _) | (with_reducible refine Up.drew ?_) | ((with_reducible refine Up.set ?_ ?_ _); rotate_left; focus (first | omega | (simp; done) | (simp; omega))) | (with_reducible refine Up.drewN ?_ _) | (with_reducible refine Up.call ?_ (by with_reducible assumption))))))).mono ?_); rintro e w2 ⟨x2, rfl, rfl, hb2⟩) <;> (have hle := Up.le hb2; (try simp only [World.size_alloc, World.size_setCell, World.size_drew, World.heap_drewN] at hle); clear hle)))
    go_ret2
    exact RetX.same (by (repeat (first | (with_reducible exact Up.refl _) | (with_reducible assumption) | (with_reducible refine Up.alloc ?_ _) | (with_reducible refine Up.drew ?_) | ((with_reducible refine Up.set ?_ ?_ _); rotate_left; focus (first | omega | (simp; done) | (simp; omega))) | (with_reducible refine Up.drewN ?_ _) | (with_reducible refine Up.call ?_ (by with_reducible assumption))))) rfl
  · have e : printF n = .error 1 := if_neg h
    rw [e]
    have HM := hid h
    clear e h hp
    go_enter Tryd.func28, Tryd.ntmps28
    go_wp2_with (first
                        | ((go_at_call 34; (with_reducible refine (may_no HM.out _).mono ?_); rintro e w1 ⟨x1, rfl, rfl, hb1⟩) <;> (have hle := Up.le hb1; (try simp only [World.size_alloc, World.size_setCell, World.size_drew, World.heap_drewN] at hle); clear hle)))
    go_ret2
    exact RetX.same (by (repeat (first | (with_reducible exact Up.refl _) | (with_reducible assumption) | (with_reducible refine Up.alloc ?_ _) | (with_reducible refine Up.drew ?_) | ((with_reducible refine Up.set ?_ ?_ _); rotate_left; focus (first | omega | (simp; done) | (simp; omega))) | (with_reducible refine Up.drewN ?_ _) | (with_reducible refine Up.call ?_ (by with_reducible assumption))))) rfl
end Go.Proofs.YtopgjbjpmnlldaaDoor
