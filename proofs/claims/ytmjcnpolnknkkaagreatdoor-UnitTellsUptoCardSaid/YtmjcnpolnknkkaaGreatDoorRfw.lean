/- The reference's Text and Read walked. -/
import Derived.Test.YtmjcnpolnknkkaaGreatDoorRfu
import Derived.Test.YtmjcnpolnknkkaaGreatDoorRfv
import Derived.Test.YtmjcnpolnknkkaaGreatDoorUnp
import Derived.Deep.DeepCutAuto

set_option linter.unusedVariables false
set_option linter.unusedSimpArgs false
namespace Go.Proofs.YtmjcnpolnknkkaaGreatDoor
open Go.RowKit

theorem four_dig {r : Nat} (h : r < 1000) : Lib.decDigits (r + 1000) = 49 :: (List.replicate (3 - (Lib.decDigits r).length) 48 ++ Lib.decDigits r) := by
  rw [dd_three h, dd_big (by omega), dd_big (by omega), dd_big (by omega), dd_small (by omega)]
  have e1 : (r + 1000) / 10 / 10 / 10 = 1 := by omega
  have e2 : (r + 1000) / 10 / 10 % 10 = r / 100 := by omega
  have e3 : (r + 1000) / 10 % 10 = r / 10 % 10 := by omega
  have e4 : (r + 1000) % 10 = r % 10 := by omega
  rw [e1, e2, e3, e4]
  rfl


set_option maxRecDepth 100000 in
set_option maxHeartbeats 4000000 in
theorem rtext_pos (m : Nat) (w : World) (hm : m ≤ 1000000000000000) : Calls Tryz.prog 15 #[.int .i64 (m : Int)] w (RetX strV (textF (m : Int)) w) := by
  obtain ⟨a, ha⟩ : ∃ a, Lib.decDigits (m / 1000) = a := ⟨_, rfl⟩
  obtain ⟨r, hr⟩ : ∃ r, (List.replicate (3 - (Lib.decDigits (m % 1000)).length) 48 ++ Lib.decDigits (m % 1000)) = r := ⟨_, rfl⟩
  have h4 : Lib.decDigits (m % 1000 + 1000) = 49 :: r := by rw [four_dig (by omega), hr]
  have la := dd_len 15 (m / 1000) (by omega)
  have lr : r.length = 3 := by rw [← hr, dd_three (by omega)]; rfl
  rw [ha] at la
  have HA := hid ha; have HR := hid hr; have H4 := hid h4
  have HQ := hid (fun W (k : Int) (hk : k = ((m / 1000 : Nat) : Int)) => by have h := rdig_any 15 (m / 1000) W (by omega) (by omega); rw [← hk, HA.out] at h; exact h)
  have HT := hid (fun W (k : Int) (hk : k = ((m % 1000 + 1000 : Nat) : Int)) => by have h := rdig_any 15 (m % 1000 + 1000) W (by omega) (by omega); rw [← hk, H4.out] at h; exact h)
  have HQ1 := hid (show (m : Int) / 1000 = ((m / 1000 : Nat) : Int) by omega)
  have HT1 := hid (show (m : Int) % 1000 + 1000 = ((m % 1000 + 1000 : Nat) : Int) by omega)
  have hx : (⟨(49 :: r).toArray⟩ : ByteArray).extract 1 (49 :: r).length = ⟨r.toArray⟩ := by rw [ba_ext2]; simp
  have HX := hid hx
  have hl : (49 :: r).length = 4 := by simp [lr]
  have hd : decide ((m : Int) < 0) = false := decide_eq_false (by omega)
  have hmi : (m : Int) ≤ 1000000000000000 := by omega
  have hm0 : (0 : Int) ≤ (m : Int) := by omega
  clear ha hr h4 hm hx
  go_enter Tryz.func15, Tryz.ntmps15
  go_wp2_with (first
                        | ((go_at_call 45; (with_reducible refine (HQ.out _ _ HQ1.out).mono ?_); rintro e w1 ⟨x1, rfl, rfl, hb1⟩) <;> (have hle := Up.le hb1; (try simp only [World.size_alloc, World.size_setCell, World.size_drew, World.heap_drewN] at hle); clear hle))
                        | ((go_at_call 45; (with_reducible refine (HT.out _ _ HT1.out).mono ?_); rintro e w2 ⟨x2, rfl, rfl, hb2⟩) <;> (have hle := Up.le hb2; (try simp only [World.size_alloc, World.size_setCell, World.size_drew, World.heap_drewN] at hle); clear hle)))
  go_ret
  refine RetX.same (by (repeat (first | (with_reducible exact Up.refl _) | (with_reducible assumption) | (with_reducible refine Up.alloc ?_ _) | (with_reducible refine Up.drew ?_) | ((with_reducible refine Up.set ?_ ?_ _); rotate_left; focus (first | omega | (simp; done) | (simp; omega))) | (with_reducible refine Up.drewN ?_ _) | (with_reducible refine Up.call ?_ (by with_reducible assumption))))) (congrArg Value.string ?_)
  apply ByteArray.ext
  rw [text_nat, HA.out, HR.out]
  simp
  exact List.take_of_length_le (by omega)
set_option maxRecDepth 100000 in
set_option maxHeartbeats 4000000 in
theorem rtext_neg (m : Nat) (w : World) (h0 : 0 < m) (hm : m ≤ 1000000000000000) : Calls Tryz.prog 15 #[.int .i64 (-(m : Int))] w (RetX strV (textF (-(m : Int))) w) := by
  obtain ⟨a, ha⟩ : ∃ a, Lib.decDigits (m / 1000) = a := ⟨_, rfl⟩
  obtain ⟨r, hr⟩ : ∃ r, (List.replicate (3 - (Lib.decDigits (m % 1000)).length) 48 ++ Lib.decDigits (m % 1000)) = r := ⟨_, rfl⟩
  have h4 : Lib.decDigits (m % 1000 + 1000) = 49 :: r := by rw [four_dig (by omega), hr]
  have la := dd_len 15 (m / 1000) (by omega)
  have lr : r.length = 3 := by rw [← hr, dd_three (by omega)]; rfl
  rw [ha] at la
  have HA := hid ha; have HR := hid hr; have H4 := hid h4
  have HQ := hid (fun W (k : Int) (hk : k = ((m / 1000 : Nat) : Int)) => by have h := rdig_any 15 (m / 1000) W (by omega) (by omega); rw [← hk, HA.out] at h; exact h)
  have HT := hid (fun W (k : Int) (hk : k = ((m % 1000 + 1000 : Nat) : Int)) => by have h := rdig_any 15 (m % 1000 + 1000) W (by omega) (by omega); rw [← hk, H4.out] at h; exact h)
  have HQ1 := hid (show (m : Int) / 1000 = ((m / 1000 : Nat) : Int) by omega)
  have HT1 := hid (show (m : Int) % 1000 + 1000 = ((m % 1000 + 1000 : Nat) : Int) by omega)
  have hx : (⟨(49 :: r).toArray⟩ : ByteArray).extract 1 (49 :: r).length = ⟨r.toArray⟩ := by rw [ba_ext2]; simp
  have HX := hid hx
  have hl : (49 :: r).length = 4 := by simp [lr]
  have H0 := hid h0
  have hd : decide (-(m : Int) < 0) = true := decide_eq_true (by omega)
  have hd2 : (-(m : Int) < 0) := by omega
  have hmi : (m : Int) ≤ 1000000000000000 := by omega
  have hm0 : (0 : Int) < (m : Int) := by omega
  clear ha hr h4 hm hx
  go_enter Tryz.func15, Tryz.ntmps15
  go_wp2_with (first
                        | ((go_at_call 45; (with_reducible refine (HQ.out _ _ HQ1.out).mono ?_); rintro e w1 ⟨x1, rfl, rfl, hb1⟩) <;> (have hle := Up.le hb1; (try simp only [World.size_alloc, World.size_setCell, World.size_drew, World.heap_drewN] at hle); clear hle))
                        | ((go_at_call 45; (with_reducible refine (HT.out _ _ HT1.out).mono ?_); rintro e w2 ⟨x2, rfl, rfl, hb2⟩) <;> (have hle := Up.le hb2; (try simp only [World.size_alloc, World.size_setCell, World.size_drew, World.heap_drewN] at hle); clear hle)))
  go_ret
  refine RetX.same (by (repeat (first | (with_reducible exact Up.refl _) | (with_reducible assumption) | (with_reducible refine Up.alloc ?_ _) | (with_reducible refine Up.drew ?_) | ((with_reducible refine Up.set ?_ ?_ _); rotate_left; focus (first | omega | (simp; done) | (simp; omega))) | (with_reducible refine Up.drewN ?_ _) | (with_reducible refine Up.call ?_ (by with_reducible assumption))))) (congrArg Value.string ?_)
  apply ByteArray.ext
  rw [text_minus m H0.out, HA.out, HR.out]
  simp
  exact List.take_of_length_le (by omega)
theorem rtext_any (n : Int) (w : World) (hn : -1000000000000000 ≤ n ∧ n ≤ 1000000000000000) : Calls Tryz.prog 15 #[.int .i64 n] w (RetX strV (textF n) w) := by
  by_cases h : n < 0
  · obtain ⟨m, rfl⟩ : ∃ m : Nat, n = -(m : Int) := ⟨n.natAbs, by omega⟩
    exact rtext_neg m w (by omega) (by omega)
  · obtain ⟨m, rfl⟩ : ∃ m : Nat, n = (m : Int) := ⟨n.natAbs, by omega⟩
    exact rtext_pos m w (by omega)
def rdR : Except Nat Int → Value
  | .ok n => .tuple #[.int .i64 n, .int .i64 0]
  | .error e => .tuple #[.int .i64 0, .int .i64 e]
theorem byte_is (x c : UInt8) : (((x.toNat : Nat) : Int) == ((c.toNat : Nat) : Int)) = decide (x = c) := by
  by_cases h : x = c
  · subst h; simp
  · have : x.toNat ≠ c.toNat := fun e => h (UInt8.toNat_inj.1 e)
    rw [beq_eq_false_iff_ne.2 (by omega)]; simp [h]
theorem rmay_yes {n : Int} (h : -1000000000 ≤ n ∧ n ≤ 1000000000) (w : World) : Calls Tryz.prog 8 #[.int .i64 n] w (RetX boolV true w) :=
  (rmay_any n w).mono fun e w' k => ⟨_, rfl, by rw [k.1]; exact congrArg (fun b => Ending.returned (.bool b)) (by simp [mayB]; omega), by rw [← k.2]; exact Up.refl _⟩
theorem rmay_no {n : Int} (h : ¬ (-1000000000 ≤ n ∧ n ≤ 1000000000)) (w : World) : Calls Tryz.prog 8 #[.int .i64 n] w (RetX boolV false w) :=
  (rmay_any n w).mono fun e w' k => ⟨_, rfl, by rw [k.1]; exact congrArg (fun b => Ending.returned (.bool b)) (by simp [mayB]; omega), by rw [← k.2]; exact Up.refl _⟩
theorem sign_at (s : List UInt8) : ∃ at_ : Nat, (s.head? = some 45 → at_ = 1) ∧ (¬ s.head? = some 45 → at_ = 0) ∧ bodyF s = s.drop at_ ∧ at_ + (bodyF s).length = s.length := by
  unfold bodyF
  by_cases h : s.head? = some 45
  · refine ⟨1, fun _ => rfl, fun k => absurd h k, by rw [if_pos h], ?_⟩
    rw [if_pos h]
    cases s with
    | nil => cases h
    | cons x s => simp; omega
  · refine ⟨0, fun k => absurd k h, fun _ => rfl, by rw [if_neg h]; rfl, ?_⟩
    rw [if_neg h]; simp
theorem parse_none {s : List UInt8} (h : parseN s = none) : parseF s = .error 2 := by unfold parseF; rw [h]
theorem parse_some {s : List UInt8} {n : Int} (h : parseN s = some n) : parseF s = if -1000000000 ≤ n ∧ n ≤ 1000000000 then .ok n else .error 1 := by unfold parseF; rw [h]

set_option maxRecDepth 100000 in
set_option maxHeartbeats 8000000 in
theorem rread_any (s : List UInt8) (hs : s.length ≤ 1048576) (w : World) : Calls Tryz.prog 17 #[.string ⟨s.toArray⟩] w (RetX rdR (parseF s) w) := by
  by_cases hl : 12 < s.length
  · rw [parse_long hl]
    have hl' : (12 : Int) < (s.length : Int) := by omega
    go_enter Tryz.func17, Tryz.ntmps17
    go_wp2
    go_ret2
    exact RetX.same (by (repeat (first | (with_reducible exact Up.refl _) | (with_reducible assumption) | (with_reducible refine Up.alloc ?_ _) | (with_reducible refine Up.drew ?_) | ((with_reducible refine Up.set ?_ ?_ _); rotate_left; focus (first | omega | (simp; done) | (simp; omega))) | (with_reducible refine Up.drewN ?_ _) | (with_reducible refine Up.call ?_ (by with_reducible assumption))))) rfl
  · have hl' : ¬ (12 : Int) < (s.length : Int) := by omega
    have hl2 : (s.length : Int) ≤ 12 := by omega
    obtain ⟨at_, ha1, ha2, hb1, hb2⟩ := sign_at s
    obtain ⟨b, hb⟩ : ∃ b, decide (s.head? = some 45) = b := ⟨_, rfl⟩
    have HA1 := hid ha1; have HA2 := hid ha2; have HB1 := hid hb1; have HB2 := hid hb2; have HB := hid hb
    have HL := hid (show s.length ≤ 12 by omega)
    clear ha1 ha2 hb1 hb2 hb hl hs
    go_enter Tryz.func17, Tryz.ntmps17
    go_upto_region 4 with fail
    go_cut [5] (fun t wx => t = .bool b ∧ wx = w)
    case first =>
      clear HA1 HA2 HB1 HB2 HL
      cases s with
      | nil =>
        go_wp2
        go_meet
        exact ⟨by rw [← HB.out]; rfl, rfl⟩
      | cons x l =>
        have hp : (0 : Int) < ((x :: l).length : Int) := by simp
        go_wp2
        go_meet
        refine ⟨congrArg Value.bool ?_, rfl⟩
        rw [← HB.out]
        exact (byte_is x 45).trans (by simp)
    case rest =>
      obtain ⟨rfl, hw⟩ := hcut
      have hw2 := hw.symm
      subst hw2
      go_upto_if 22 with fail
      go_cut [4] (fun t wx => t = .int .i64 (at_ : Int) ∧ wx = w)
      case first =>
        cases b with
        | true =>
          have h1 := HA1.out (of_decide_eq_true HB.out)
          subst h1
          go_wp2
          go_meet
          exact ⟨rfl, rfl⟩
        | false =>
          have h1 := HA2.out (of_decide_eq_false HB.out)
          subst h1
          go_wp2
          go_meet
          exact ⟨rfl, rfl⟩
      case rest =>
        obtain ⟨rfl, hw⟩ := hcut
        have hw2 := hw.symm
        subst hw2
        go_wp2
        go_loopw [6, 7, 8, 9] (fun n m bh i wr => ∃ (j n' m' : Nat) (bh' : Int), n = .int .i64 (n' : Int) ∧ m = .int .i64 (m' : Int) ∧ bh = .int .i64 bh' ∧ i = .int .i64 ((at_ + j : Nat) : Int) ∧ j ≤ (bodyF s).length ∧ Hid (RS (bodyF s) j n' m' bh') ∧ Up w wr) (fun _ _ _ i _ => s.length - (intOf i).toNat)
        case atStart => exact ⟨0, 0, 0, -1, rfl, rfl, rfl, rfl, by omega, RS.begin_ _, Up.refl _⟩
        case round =>
          obtain ⟨j, n, m, bh, rfl, rfl, rfl, rfl, hj, HS, hU⟩ := hrel
          have hj12 : j ≤ 12 := by have := HB2.out; have := HL.out; omega
          obtain ⟨q1, q2, q3, q4⟩ := HS.out.bounds hj12
          by_cases hlt : j < (bodyF s).length
          · have hk : at_ + j < s.length := by have := HB2.out; omega
            have hk' : ((at_ + j : Nat) : Int) < (s.length : Int) := by omega
            have hk0 : (0 : Int) ≤ ((at_ + j : Nat) : Int) := by omega
            obtain ⟨x, hx⟩ : ∃ x, (bodyF s)[j]? = some x := ⟨_, List.getElem?_eq_getElem hlt⟩
            have hx2 : s[at_ + j]? = some x := by
              have h1 := hx
              rw [HB1.out, List.getElem?_drop] at h1
              exact h1
            have hx3 : ∀ h, ((⟨s.toArray⟩ : ByteArray)[at_ + j]'h) = x := fun h => by
              obtain ⟨h1, h2⟩ := List.getElem?_eq_some_iff.1 hx2
              exact h2
            have hx4 : ∀ h, ((⟨s.toArray⟩ : ByteArray)[at_ + j]'h).toNat = x.toNat := fun h => congrArg UInt8.toNat (hx3 h)
            have HX := hid hx; have Hlt := hid hlt; have HK := hid hk
            clear hx hx2 hlt
            obtain ⟨i, hi⟩ : ∃ i, at_ + j = i := ⟨_, rfl⟩
            have HI := hid hi
            rw [hi] at hk' hk0 hx3 hx4 ⊢
            have hk2 : i < s.length := by rw [← hi]; exact HK.out
            clear hi hk
            have hi12 : i < 12 := by have := HL.out; omega
            by_cases hdg : Dig x
            · have hd1 := hdg.1
              have hd2 := hdg.2
              have HD := hid hdg
              clear hdg
              obtain ⟨c, hc⟩ : ∃ c, x.toNat = c := ⟨_, rfl⟩
              rw [hc] at hd1 hd2 hx4
              have HC := hid hc
              clear hc hx3
              have hd3 : (48 : Int) ≤ (c : Int) := by omega
              have hd4 : (c : Int) ≤ 57 := by omega
              have hd5 : ¬ c = 46 := by omega
              have hd6 : ((c : Int) == 46) = false := beq_eq_false_iff_ne.2 (by omega)
              by_cases hbh : bh < 0
              · have h1 := (HS.out.digit HX.out HD.out).1 hbh
                rw [HC.out] at h1
                have H1 := hid h1
                clear h1
                go_wp2
                go_roundw
                case rel => exact ⟨j + 1, n * 10 + (c - 48), m + 1, bh, congrArg (Value.int .i64) (by omega), congrArg (Value.int .i64) (by omega), rfl, congrArg (Value.int .i64) (by have := HI.out; omega), by have := Hlt.out; omega, H1.out, hU⟩
                case measure => simp [intOf]; omega
              · have h1 := (HS.out.digit HX.out HD.out).2 (by omega)
                rw [HC.out] at h1
                have H1 := hid h1
                clear h1
                go_wp2
                go_roundw
                case rel => exact ⟨j + 1, n * 10 + (c - 48), m, bh + 1, congrArg (Value.int .i64) (by omega), rfl, rfl, congrArg (Value.int .i64) (by have := HI.out; omega), by have := Hlt.out; omega, H1.out, hU⟩
                case measure => simp [intOf]; omega
            · by_cases hdot : x = 46 ∧ bh < 0
              · obtain ⟨rfl, hbh⟩ := hdot
                obtain rfl : bh = -1 := by omega
                have h1 := HS.out.dot HX.out
                have H1 := hid h1
                clear h1 hdg
                go_wp2
                go_roundw
                case rel => exact ⟨j + 1, n, m, 0, rfl, rfl, rfl, congrArg (Value.int .i64) (by have := HI.out; omega), by have := Hlt.out; omega, H1.out, hU⟩
                case measure => simp [intOf]; omega
              · have hnone := parse_none (HS.out.bad HX.out hdg (fun e => by rcases Int.lt_or_le bh 0 with h | h; exact absurd ⟨e, h⟩ hdot; exact h))
                have HN := hid hnone
                obtain ⟨c, hc⟩ : ∃ c, x.toNat = c := ⟨_, rfl⟩
                have hdc : c < 48 ∨ 57 < c := by
                  rw [← hc]
                  rcases Nat.lt_or_ge x.toNat 48 with h | h
                  · exact .inl h
                  · rcases Nat.lt_or_ge 57 x.toNat with h2 | h2
                    · exact .inr h2
                    · exact absurd ⟨h, h2⟩ hdg
                have hcb : c = 46 → ¬ bh < 0 := fun e h => hdot ⟨UInt8.toNat_inj.1 (by rw [hc, e]; rfl), h⟩
                rw [hc] at hx4
                clear hnone hdg hdot hx3 hc
                by_cases h46 : c = 46
                · have hbh := hcb h46
                  subst h46
                  clear hcb hdc
                  go_wp2
                  go_ret2
                  exact RetX.mk (.error 2) (by (repeat (first | (with_reducible exact Up.refl _) | (with_reducible assumption) | (with_reducible refine Up.alloc ?_ _) | (with_reducible refine Up.drew ?_) | ((with_reducible refine Up.set ?_ ?_ _); rotate_left; focus (first | omega | (simp; done) | (simp; omega))) | (with_reducible refine Up.drewN ?_ _) | (with_reducible refine Up.call ?_ (by with_reducible assumption))))) HN.out rfl
                · clear hcb
                  have hd6 : ((c : Int) == 46) = false := beq_eq_false_iff_ne.2 (by omega)
                  rcases hdc with h | h
                  · have h' : (c : Int) < 48 := by omega
                    go_wp2
                    go_ret2
                    exact RetX.mk (.error 2) (by (repeat (first | (with_reducible exact Up.refl _) | (with_reducible assumption) | (with_reducible refine Up.alloc ?_ _) | (with_reducible refine Up.drew ?_) | ((with_reducible refine Up.set ?_ ?_ _); rotate_left; focus (first | omega | (simp; done) | (simp; omega))) | (with_reducible refine Up.drewN ?_ _) | (with_reducible refine Up.call ?_ (by with_reducible assumption))))) HN.out rfl
                  · have h' : (57 : Int) < (c : Int) := by omega
                    have h'' : ¬ (c : Int) < 48 := by omega
                    have h3 : ¬ c < 48 := by omega
                    go_wp2
                    go_ret2
                    exact RetX.mk (.error 2) (by (repeat (first | (with_reducible exact Up.refl _) | (with_reducible assumption) | (with_reducible refine Up.alloc ?_ _) | (with_reducible refine Up.drew ?_) | ((with_reducible refine Up.set ?_ ?_ _); rotate_left; focus (first | omega | (simp; done) | (simp; omega))) | (with_reducible refine Up.drewN ?_ _) | (with_reducible refine Up.call ?_ (by with_reducible assumption))))) HN.out rfl
          · obtain rfl : j = (bodyF s).length := by omega
            obtain ⟨d1, d2⟩ := HS.out.done HL.out
            obtain ⟨k, hk⟩ : ∃ k, at_ + (bodyF s).length = k := ⟨_, rfl⟩
            have hks : k = s.length := hk.symm.trans HB2.out
            rw [hk]
            subst hks
            obtain ⟨tr, htr⟩ : ∃ tr, decide (bh ≠ 3 ∨ m < 1 ∨ (1 < m ∧ (bodyF s).head? = some 48) ∨ (s.head? = some 45 ∧ n = 0)) = tr := ⟨_, rfl⟩
            have HTR := hid htr; have HD1 := hid d1; have HD2 := hid d2
            clear htr d1 d2 hk
            go_upto_region 21 with fail
            go_cut [84] (fun t wx => t = .bool tr ∧ wx = wr)
            case first =>
              have hm0 : (0 : Int) ≤ (m : Int) := by omega
              by_cases r1 : bh = 3
              · subst r1
                by_cases r2 : m < 1
                · have r2' : (m : Int) < 1 := by omega
                  go_wp2
                  go_meet
                  exact ⟨by rw [← HTR.out]; simp [r2], rfl⟩
                · have r2' : ¬ (m : Int) < 1 := by omega
                  by_cases r3 : 1 < m
                  · have r3' : (1 : Int) < (m : Int) := by omega
                    have hpos : 0 < (bodyF s).length := by
                      rcases HS.out with ⟨h, -⟩ | ⟨D, E, e, -, -, -, hm, -⟩
                      · omega
                      · have := congrArg List.length e
                        simp at this
                        omega
                    obtain ⟨x, hx⟩ : ∃ x, (bodyF s)[0]? = some x := ⟨_, List.getElem?_eq_getElem hpos⟩
                    have hhd : (bodyF s).head? = some x := by rw [List.head?_eq_getElem?]; exact hx
                    have hat : at_ < s.length := by have := HB2.out; omega
                    have hat' : (at_ : Int) < (s.length : Int) := by omega
                    have hx2 : s[at_]? = some x := by
                      have h1 := hx
                      rw [HB1.out, List.getElem?_drop] at h1
                      exact h1
                    have hx4 : ∀ h, ((⟨s.toArray⟩ : ByteArray)[at_]'h).toNat = x.toNat := fun h => by
                      obtain ⟨h1, h2⟩ := List.getElem?_eq_some_iff.1 hx2
                      exact congrArg UInt8.toNat h2
                    have HH := hid hhd
                    obtain ⟨c, hc⟩ : ∃ c, x.toNat = c := ⟨_, rfl⟩
                    rw [hc] at hx4
                    have HC := hid hc
                    clear hx hx2 hhd hpos hc
                    by_cases r4 : c = 48
                    · have hx48 : x = 48 := UInt8.toNat_inj.1 (by rw [HC.out, r4]; rfl)
                      have HX := hid hx48
                      subst r4
                      clear hx48
                      go_wp2
                      go_meet
                      exact ⟨by rw [← HTR.out]; simp [HH.out, HX.out, r3], rfl⟩
                    · have hx48 : ¬ x = 48 := fun e => r4 (by rw [← HC.out, e]; rfl)
                      have HX := hid hx48
                      have r4' : ((c : Int) == 48) = false := beq_eq_false_iff_ne.2 (by omega)
                      clear hx48
                      cases b with
                      | false =>
                        have hsg : ¬ s.head? = some 45 := of_decide_eq_false HB.out
                        have HG := hid hsg
                        clear hsg
                        go_wp2
                        go_meet
                        exact ⟨by rw [← HTR.out]; simp [HH.out, HX.out, r2, HG.out], rfl⟩
                      | true =>
                        have hsg : s.head? = some 45 := of_decide_eq_true HB.out
                        have HG := hid hsg
                        clear hsg
                        by_cases r6 : n = 0
                        · have r6' : ((n : Int) == 0) = true := beq_iff_eq.2 (by omega)
                          have R6 := hid r6
                          clear r6
                          go_wp2
                          go_meet
                          exact ⟨by rw [← HTR.out]; simp [HH.out, HX.out, r2, HG.out, R6.out], rfl⟩
                        · have r6' : ((n : Int) == 0) = false := beq_eq_false_iff_ne.2 (by omega)
                          go_wp2
                          go_meet
                          exact ⟨by rw [← HTR.out]; simp [HH.out, HX.out, r2, HG.out, r6], rfl⟩
                  · have r3' : ¬ (1 : Int) < (m : Int) := by omega
                    cases b with
                    | false =>
                      have hsg : ¬ s.head? = some 45 := of_decide_eq_false HB.out
                      have HG := hid hsg
                      clear hsg
                      go_wp2
                      go_meet
                      exact ⟨by rw [← HTR.out]; simp [r2, r3, HG.out], rfl⟩
                    | true =>
                      have hsg : s.head? = some 45 := of_decide_eq_true HB.out
                      have HG := hid hsg
                      clear hsg
                      by_cases r6 : n = 0
                      · have r6' : ((n : Int) == 0) = true := beq_iff_eq.2 (by omega)
                        have R6 := hid r6
                        clear r6
                        go_wp2
                        go_meet
                        exact ⟨by rw [← HTR.out]; simp [r2, r3, HG.out, R6.out], rfl⟩
                      · have r6' : ((n : Int) == 0) = false := beq_eq_false_iff_ne.2 (by omega)
                        go_wp2
                        go_meet
                        exact ⟨by rw [← HTR.out]; simp [r2, r3, HG.out, r6], rfl⟩
              · have r1' : (bh != 3) = true := by simpa using r1
                go_wp2
                go_meet
                exact ⟨by rw [← HTR.out]; simp [r1], rfl⟩
            case rest =>
              obtain ⟨rfl, hw⟩ := hcut
              have hw2 := hw.symm
              subst hw2
              cases tr with
              | true =>
                have HN := hid (parse_none (HD1.out (of_decide_eq_true HTR.out)))
                go_wp2
                go_ret2
                exact RetX.mk (.error 2) (by (repeat (first | (with_reducible exact Up.refl _) | (with_reducible assumption) | (with_reducible refine Up.alloc ?_ _) | (with_reducible refine Up.drew ?_) | ((with_reducible refine Up.set ?_ ?_ _); rotate_left; focus (first | omega | (simp; done) | (simp; omega))) | (with_reducible refine Up.drewN ?_ _) | (with_reducible refine Up.call ?_ (by with_reducible assumption))))) HN.out rfl
              | false =>
                have hp := HD2.out (of_decide_eq_false HTR.out)
                have HN := hid (parse_some hp)
                clear hp
                cases b with
                | true =>
                  have hsg : s.head? = some 45 := of_decide_eq_true HB.out
                  have HN2 := hid (show parseF s = if -1000000000 ≤ -(n : Int) ∧ -(n : Int) ≤ 1000000000 then .ok (-(n : Int)) else .error 1 by rw [HN.out, if_pos hsg])
                  clear hsg
                  by_cases hM : -1000000000 ≤ -(n : Int) ∧ -(n : Int) ≤ 1000000000
                  · have HM := hid hM
                    have HN3 := hid (HN2.out.trans (if_pos hM))
                    clear hM
                    go_wp2_with (first
                        | ((go_at_call 8; (with_reducible refine (rmay_yes HM.out _).mono ?_); rintro e w1 ⟨x1, rfl, rfl, hb1⟩) <;> (have hle := Up.le hb1; (try simp only [World.size_alloc, World.size_setCell, World.size_drew, World.heap_drewN] at hle); clear hle)))
                    go_ret2
                    exact RetX.mk _ (by (repeat (first | (with_reducible exact Up.refl _) | (with_reducible assumption) | (with_reducible refine Up.alloc ?_ _) | (with_reducible refine Up.drew ?_) | ((with_reducible refine Up.set ?_ ?_ _); rotate_left; focus (first | omega | (simp; done) | (simp; omega))) | (with_reducible refine Up.drewN ?_ _) | (with_reducible refine Up.call ?_ (by with_reducible assumption))))) HN3.out rfl
                  · have HM := hid hM
                    have HN3 := hid (HN2.out.trans (if_neg hM))
                    clear hM
                    go_wp2_with (first
                        | ((go_at_call 8; (with_reducible refine (rmay_no HM.out _).mono ?_); rintro e w1 ⟨x1, rfl, rfl, hb1⟩) <;> (have hle := Up.le hb1; (try simp only [World.size_alloc, World.size_setCell, World.size_drew, World.heap_drewN] at hle); clear hle)))
                    go_ret2
                    exact RetX.mk _ (by (repeat (first | (with_reducible exact Up.refl _) | (with_reducible assumption) | (with_reducible refine Up.alloc ?_ _) | (with_reducible refine Up.drew ?_) | ((with_reducible refine Up.set ?_ ?_ _); rotate_left; focus (first | omega | (simp; done) | (simp; omega))) | (with_reducible refine Up.drewN ?_ _) | (with_reducible refine Up.call ?_ (by with_reducible assumption))))) HN3.out rfl
                | false =>
                  have hsg : ¬ s.head? = some 45 := of_decide_eq_false HB.out
                  have HN2 := hid (show parseF s = if -1000000000 ≤ (n : Int) ∧ (n : Int) ≤ 1000000000 then .ok (n : Int) else .error 1 by rw [HN.out, if_neg hsg])
                  clear hsg
                  by_cases hM : -1000000000 ≤ (n : Int) ∧ (n : Int) ≤ 1000000000
                  · have HM := hid hM
                    have HN3 := hid (HN2.out.trans (if_pos hM))
                    clear hM
                    go_wp2_with (first
                        | ((go_at_call 8; (with_reducible refine (rmay_yes HM.out _).mono ?_); rintro e w1 ⟨x1, rfl, rfl, hb1⟩) <;> (have hle := Up.le hb1; (try simp only [World.size_alloc, World.size_setCell, World.size_drew, World.heap_drewN] at hle); clear hle)))
                    go_ret2
                    exact RetX.mk _ (by (repeat (first | (with_reducible exact Up.refl _) | (with_reducible assumption) | (with_reducible refine Up.alloc ?_ _) | (with_reducible refine Up.drew ?_) | ((with_reducible refine Up.set ?_ ?_ _); rotate_left; focus (first | omega | (simp; done) | (simp; omega))) | (with_reducible refine Up.drewN ?_ _) | (with_reducible refine Up.call ?_ (by with_reducible assumption))))) HN3.out rfl
                  · have HM := hid hM
                    have HN3 := hid (HN2.out.trans (if_neg hM))
                    clear hM
                    go_wp2_with (first
                        | ((go_at_call 8; (with_reducible refine (rmay_no HM.out _).mono ?_); rintro e w1 ⟨x1, rfl, rfl, hb1⟩) <;> (have hle := Up.le hb1; (try simp only [World.size_alloc, World.size_setCell, World.size_drew, World.heap_drewN] at hle); clear hle)))
                    go_ret2
                    exact RetX.mk _ (by (repeat (first | (with_reducible exact Up.refl _) | (with_reducible assumption) | (with_reducible refine Up.alloc ?_ _) | (with_reducible refine Up.drew ?_) | ((with_reducible refine Up.set ?_ ?_ _); rotate_left; focus (first | omega | (simp; done) | (simp; omega))) | (with_reducible refine Up.drewN ?_ _) | (with_reducible refine Up.call ?_ (by with_reducible assumption))))) HN3.out rfl

end Go.Proofs.YtmjcnpolnknkkaaGreatDoor
