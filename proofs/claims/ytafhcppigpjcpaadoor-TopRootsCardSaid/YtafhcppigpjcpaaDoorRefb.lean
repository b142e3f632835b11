/- The walks of the reference's Exact and Value. -/
import Derived.Test.YtafhcppigpjcpaaDoorBox
import Derived.Test.YtafhcppigpjcpaaDoorHas
set_option linter.unusedVariables false
set_option linter.unusedSimpArgs false
namespace Go.Proofs.YtafhcppigpjcpaaDoor
open Go.RowKit

/-- c so many times with n, then with 1000: after j rounds, of which i are with n. -/
def innN (c n : Int) (i : Nat) : Nat → Int
  | 0 => c
  | j + 1 => if j < i then innN c n i j * n else innN c n i j * 1000
theorem mul5 {x n b : Int} (hx : -b ≤ x ∧ x ≤ b) (hb : 0 ≤ b) (hn : -5000 ≤ n ∧ n ≤ 5000) : -(b * 5000) ≤ x * n ∧ x * n ≤ b * 5000 := by
  have h : (x * n).natAbs ≤ b.natAbs * 5000 := by
    rw [Int.natAbs_mul]; exact Nat.mul_le_mul (by omega) (by omega)
  have : ((b.natAbs * 5000 : Nat) : Int) = b * 5000 := by omega
  omega
theorem innN_bd (c n : Int) (i : Nat) (hc : Lit5 c) (hn : Lit5 n) : ∀ j, -(5000 * 5000 ^ j) ≤ innN c n i j ∧ innN c n i j ≤ 5000 * 5000 ^ j
  | 0 => by unfold innN; unfold Lit5 at hc; simp; omega
  | j + 1 => by
    have ih := innN_bd c n i hc hn j
    have hb : (0 : Int) ≤ 5000 * 5000 ^ j := Int.mul_nonneg (by decide) (Int.pow_nonneg (by decide))
    unfold innN
    rw [Int.pow_succ, ← Int.mul_assoc]
    split
    · exact mul5 ih hb hn
    · exact mul5 ih hb (by omega)
theorem innN_four (c n : Int) (i : Nat) (hi : i ≤ 4) : innN c n i 4 = c * (n ^ i * (1000 * 1) ^ (4 - i)) := by
  have : i = 0 ∨ i = 1 ∨ i = 2 ∨ i = 3 ∨ i = 4 := by omega
  rcases this with rfl | rfl | rfl | rfl | rfl <;> simp [innN] <;> grind
def tB (i : Nat) : Int := 5000 * 5 ^ i * 1000000000000
theorem term_bd (c n : Int) (i : Nat) (hi : i ≤ 4) (hc : Lit5 c) (hn : Lit5 n) : -(tB i) ≤ innN c n i 4 ∧ innN c n i 4 ≤ tB i := by
  have h5 : ∀ {x b : Int}, -b ≤ x ∧ x ≤ b → 0 ≤ b → -(b * 5000) ≤ x * n ∧ x * n ≤ b * 5000 := fun h hb => mul5 h hb hn
  have h0 : -(5000 : Int) ≤ c ∧ c ≤ 5000 := hc
  have h1 := h5 h0 (by decide)
  have h2 := h5 h1 (by decide)
  have h3 := h5 h2 (by decide)
  have h4 := h5 h3 (by decide)
  have : i = 0 ∨ i = 1 ∨ i = 2 ∨ i = 3 ∨ i = 4 := by omega
  rcases this with rfl | rfl | rfl | rfl | rfl <;> simp [innN, tB] <;> omega
/-- what has been added up after k rounds -/
def exSum (n : Int) (p : List Int) (k : Nat) : Int := pNum n 1 0 (p.take k)
theorem pNum_snoc (a b : Int) : ∀ (p : List Int) (k : Nat) (c : Int), pNum a b k (p ++ [c]) = pNum a b k p + c * (a ^ (k + p.length) * (1000 * b) ^ (4 - (k + p.length)))
  | [], k, c => by simp [pNum]
  | d :: p, k, c => by
    simp only [List.cons_append, pNum, pNum_snoc a b p (k + 1) c, List.length_cons]
    rw [show k + 1 + p.length = k + (p.length + 1) by omega]
    omega
theorem exSum_step {n : Int} {p : List Int} {k : Nat} (hk : k < p.length) (h5 : p.length ≤ 5) : exSum n p (k + 1) = exSum n p k + innN (p[k]?.getD 0) n k 4 := by
  unfold exSum
  rw [List.take_succ_eq_append_getElem hk, pNum_snoc, innN_four _ _ _ (by omega)]
  simp [List.getElem?_eq_getElem hk, show min k p.length = k by omega]
def sB : Nat → Int
  | 0 => 0
  | k + 1 => sB k + tB k
theorem exSum_bd {n : Int} {p : List Int} (h5 : p.length ≤ 5) (hn : Lit5 n) (hp : ∀ c ∈ p, Lit5 c) : ∀ k, k ≤ p.length → -(sB k) ≤ exSum n p k ∧ exSum n p k ≤ sB k
  | 0, _ => by simp [exSum, pNum, sB]
  | k + 1, hk => by
    have ih := exSum_bd h5 hn hp k (by omega)
    rw [exSum_step (by omega) h5]
    have hc : Lit5 (p[k]?.getD 0) := by
      rw [List.getElem?_eq_getElem (by omega)]
      exact hp _ (List.getElem_mem (by omega))
    have := term_bd (p[k]?.getD 0) n k (by omega) hc hn
    unfold sB
    omega
theorem sB_le {k : Nat} (h : k ≤ 5) : sB k ≤ 3905000000000000000 := by
  have : k = 0 ∨ k = 1 ∨ k = 2 ∨ k = 3 ∨ k = 4 ∨ k = 5 := by omega
  rcases this with rfl | rfl | rfl | rfl | rfl | rfl <;> decide
theorem tB_le {k : Nat} (h : k ≤ 4) : tB k ≤ 3125000000000000000 := by
  have : k = 0 ∨ k = 1 ∨ k = 2 ∨ k = 3 ∨ k = 4 := by omega
  rcases this with rfl | rfl | rfl | rfl | rfl <;> decide
theorem innN_big {c n : Int} {i j : Nat} (hj : j < 4) (hc : Lit5 c) (hn : Lit5 n) : (-3125000000000000000 ≤ innN c n i j * n ∧ innN c n i j * n ≤ 3125000000000000000) ∧ (-3125000000000000000 ≤ innN c n i j * 1000 ∧ innN c n i j * 1000 ≤ 3125000000000000000) := by
  have b := innN_bd c n i hc hn j
  have h5 : (5000 : Int) * 5000 ^ j ≤ 625000000000000 ∧ (0 : Int) ≤ 5000 * 5000 ^ j := by
    have : j = 0 ∨ j = 1 ∨ j = 2 ∨ j = 3 := by omega
    rcases this with rfl | rfl | rfl | rfl <;> decide
  have k1 := mul5 (x := innN c n i j) (n := n) (b := 625000000000000) (by omega) (by decide) hn
  have k2 := mul5 (x := innN c n i j) (n := 1000) (b := 625000000000000) (by omega) (by decide) (by decide)
  omega
theorem rexact_bd {n : Int} {p : List Int} (h5 : p.length ≤ 5) (hn : Lit5 n) (hp : ∀ c ∈ p, Lit5 c) : -3905000000000000000 ≤ exP n p ∧ exP n p ≤ 3905000000000000000 := by
  have := sB_le h5
  have h2 := exSum_bd h5 hn hp p.length (Nat.le_refl _)
  unfold exSum at h2
  rw [List.take_length] at h2
  show -3905000000000000000 ≤ pNum n 1 0 p ∧ pNum n 1 0 p ≤ 3905000000000000000
  omega
set_option maxHeartbeats 1000000 in
theorem rexact_any (A : Option Addr) (p : List Int) (c : Nat) (n : Int) (w : World) (hr : RdI w A p) (hs : smallB p n = true) :
    Calls Tryd.prog 43 #[.slice A p.length c, .int .i64 n] w (RetX intV (exP n p) w) := by
  obtain ⟨h0, h5, hn, hp⟩ := smallB_true hs
  have Hr := hid hr
  have Hp := hid hp
  have Hn := hid hn
  clear hr hp hs hn
  go_enter Tryd.func43, Tryd.ntmps43
  go_wp2
  go_loop [5, 6, 7, 8] (fun s i x j => ∃ k : Nat, k ≤ p.length ∧ i = .int .i64 k ∧ s = .int .i64 (exSum n p k)) (fun _ i _ _ => p.length - (intOf i).toNat)
  case atStart => exact ⟨0, by omega, rfl, rfl⟩
  case round =>
    obtain ⟨k, hk, rfl, rfl⟩ := hrel
    by_cases hlt : k < p.length
    · obtain ⟨b1, o1, rfl, l1, c1⟩ := (Hr.out).at (by omega)
      have k1 := c1 k hlt
      have Hst := hid (exSum_step (n := n) hlt h5)
      have hc : Lit5 (p[k]?.getD 0) := by
        rw [List.getElem?_eq_getElem hlt]
        exact Hp.out _ (List.getElem_mem hlt)
      have hb := exSum_bd h5 Hn.out Hp.out k hk
      have hsb := sB_le (show k ≤ 5 by omega)
      have htb := tB_le (show k ≤ 4 by omega)
      generalize p[k]?.getD 0 = m at *
      have ht := term_bd m n k (by omega) hc Hn.out
      have Hin := hid (fun j (hj : j < 4) => innN_big (i := k) hj hc Hn.out)
      have _ : -3905000000000000000 ≤ exSum n p k := by omega
      have _ : exSum n p k ≤ 3905000000000000000 := by omega
      have Ht := hid (show -3125000000000000000 ≤ innN m n k 4 ∧ innN m n k 4 ≤ 3125000000000000000 by omega)
      clear c1 hb hsb htb ht hc
      generalize exSum n p k = S at *
      have hdk : decide ((k : Int) < (p.length : Int)) = true := by simp; omega
      go_wp2
      go_loop [7, 8] (fun x j => ∃ q : Nat, q ≤ 4 ∧ j = .int .i64 q ∧ x = .int .i64 (innN m n k q)) (fun _ j => 4 - (intOf j).toNat)
      case atStart => exact ⟨0, by omega, rfl, rfl⟩
      case round =>
        obtain ⟨q, hq, rfl, rfl⟩ := hrel
        by_cases hq4 : q < 4
        · obtain ⟨⟨i1, i2⟩, ⟨i3, i4⟩⟩ := Hin.out q hq4
          have hdq : decide ((q : Int) < 4) = true := by simp; omega
          have hst : innN m n k (q + 1) = if q < k then innN m n k q * n else innN m n k q * 1000 := rfl
          have Hst2 := hid hst
          clear hst
          generalize innN m n k q = X at *
          by_cases hqk : q < k
          · have hdqk : decide (q < k) = true := by simpa using hqk
            go_wp2
            go_round
            case rel => exact ⟨q + 1, by omega, by go_num, by rw [Hst2.out, if_pos hqk]⟩
            case measure => simp [intOf]; omega
          · have hdqk : decide (q < k) = false := by simpa using hqk
            go_wp2
            go_round
            case rel => exact ⟨q + 1, by omega, by go_num, by rw [Hst2.out, if_neg hqk]⟩
            case measure => simp [intOf]; omega
        · obtain rfl : q = 4 := by omega
          obtain ⟨t1, t2⟩ := Ht.out
          generalize innN m n k 4 = X at *
          go_wp2
          go_round
          case rel => exact ⟨k + 1, by omega, by go_num, by rw [Hst.out]⟩
          case measure => simp [intOf]; omega
    · obtain rfl : k = p.length := by omega
      go_wp2
      go_ret
      refine RetX.mk _ (Up.refl _) ?_ rfl
      unfold exSum
      rw [List.take_length]
end Go.Proofs.YtafhcppigpjcpaaDoor
