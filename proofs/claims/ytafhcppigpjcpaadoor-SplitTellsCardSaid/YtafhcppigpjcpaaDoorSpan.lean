/- The walks of the packages unit (numbers alone) and span: each function comes to what the plain definition says. -/
import Derived.Test.YtafhcppigpjcpaaDoorBase
set_option linter.unusedVariables false
set_option linter.unusedSimpArgs false
namespace Go.Proofs.YtafhcppigpjcpaaDoor
open Go.RowKit

theorem may_any (n : Int) (w : World) :
    Calls Tryd.prog 95 #[.int .i64 n] w fun e w' => e = .returned (.bool (mayB n)) ∧ w = w' := by
  unfold mayB
  go_enter Tryd.func95, Tryd.ntmps95
  go_wp2
  all_goals go_ret
  all_goals simp [*]
  omega

theorem floor_tdiv (n k : Int) (hk : 0 < k) : dn n k = if Int.tmod n k < 0 then Int.tdiv n k - 1 else Int.tdiv n k := by
  unfold dn
  have h1 := Int.mul_tdiv_add_tmod n k
  have h2 := Int.tmod_lt_of_pos n hk
  have h3 := Int.lt_tmod_of_pos n hk
  split
  · have := (Int.ediv_emod_unique hk (a := n) (r := n.tmod k + k) (q := n.tdiv k - 1)).2 ⟨by rw [Int.mul_sub]; omega, by omega, by omega⟩
    exact this.1
  · have := (Int.ediv_emod_unique hk (a := n) (r := n.tmod k) (q := n.tdiv k)).2 ⟨by omega, by omega, by omega⟩
    exact this.1
theorem dn_bd (n k : Int) (hk : 0 < k) : (0 ≤ n → 0 ≤ dn n k ∧ dn n k ≤ n) ∧ (n < 0 → n ≤ dn n k ∧ dn n k < 0) := by
  unfold dn
  refine ⟨fun h => ⟨Int.ediv_nonneg h (by omega), Int.ediv_le_self _ h⟩, fun h => ⟨?_, Int.ediv_neg_of_neg_of_pos h hk⟩⟩
  rw [Int.le_ediv_iff_mul_le hk]
  have : n * k ≤ n * 1 := Int.mul_le_mul_of_nonpos_left (by omega) (by omega)
  omega
theorem tdiv_bd (n k : Int) (hk : 0 < k) (h1 : -4000000000000000000 ≤ n) (h2 : n ≤ 4000000000000000000) : -4000000000000000000 ≤ n.tdiv k ∧ n.tdiv k ≤ 4000000000000000000 := by
  have h := floor_tdiv n k hk
  have hb := dn_bd n k hk
  have hm := Int.mul_tdiv_add_tmod n k
  have h3 := Int.lt_tmod_of_pos n hk
  rcases Int.lt_or_le n 0 with hn | hn
  · have := hb.2 hn
    split at h <;> omega
  · have := hb.1 hn
    split at h
    · have h0 := Int.tmod_nonneg k hn
      omega
    · omega

theorem down_any (n k : Int) (w : World) (hk : 0 < k) (h1 : -4000000000000000000 ≤ n) (h2 : n ≤ 4000000000000000000) (h3 : k ≤ 4000000000000000000) :
    Calls Tryd.prog 153 #[.int .i64 n, .int .i64 k] w fun e w' => e = .returned (.int .i64 (dn n k)) ∧ w = w' := by
  obtain ⟨_, _⟩ := tdiv_bd n k hk h1 h2
  go_enter Tryd.func153, Tryd.ntmps153
  go_wp2
  all_goals go_ret
  · exact ⟨by rw [floor_tdiv n k hk, if_pos (by assumption)]; rfl, rfl⟩
  · exact ⟨by rw [floor_tdiv n k hk, if_neg (by omega)]; rfl, rfl⟩

theorem both_any (n k : Int) (w : World) (hk : 0 < k) (h1 : -4000000000000000000 ≤ n) (h2 : n ≤ 4000000000000000000) (h3 : k ≤ 4000000000000000000) :
    Calls Tryd.prog 160 #[.int .i64 n, .int .i64 k] w fun e w' => e = .returned (.tuple #[.int .i64 (dn n k), .int .i64 (up n k)]) ∧ w = w' := by
  obtain ⟨hp, hn⟩ := dn_bd (-n) k hk
  have _ : -4000000000000000000 ≤ dn (-n) k := by rcases Int.lt_or_le (-n) 0 with h | h <;> omega
  have _ : dn (-n) k ≤ 4000000000000000000 := by rcases Int.lt_or_le (-n) 0 with h | h <;> omega
  clear hp hn
  go_enter Tryd.func160, Tryd.ntmps160
  go_wp2_with (go_at_call 153; refine (down_any _ _ _ (by omega) (by omega) (by omega) (by omega)).mono ?_; rintro e w' ⟨rfl, rfl⟩)
  go_ret2
  exact ⟨rfl, rfl⟩

theorem uproduct_any (x y : Int) (w : World) (h1 : -4000000000000000000 ≤ x * y) (h2 : x * y ≤ 4000000000000000000) :
    Calls Tryd.prog 137 #[.int .i64 x, .int .i64 y] w fun e w' => e = .returned (.tuple #[.int .i64 (pdn x y), .int .i64 (pup x y)]) ∧ w = w' := by
  go_enter Tryd.func137, Tryd.ntmps137
  go_wp2_with (go_at_call 160; refine (both_any _ _ _ (by omega) (by omega) (by omega) (by omega)).mono ?_; rintro e w' ⟨rfl, rfl⟩)
  go_ret2
  exact ⟨rfl, rfl⟩

theorem uquotient_any (x y : Int) (w : World) (h1 : -2000000000 ≤ x) (h2 : x ≤ 2000000000) (h3 : -2000000000 ≤ y) (h4 : y ≤ 2000000000) (h0 : y ≠ 0) :
    Calls Tryd.prog 138 #[.int .i64 x, .int .i64 y] w fun e w' => e = .returned (.tuple #[.int .i64 (qdn x y), .int .i64 (qup x y)]) ∧ w = w' := by
  rcases Int.lt_or_le y 0 with hy | hy
  · have hq : qdn x y = dn (-x * 1000) (-y) ∧ qup x y = up (-x * 1000) (-y) := by simp [qdn, qup, hy]
    rw [hq.1, hq.2]
    clear hq
    go_enter Tryd.func138, Tryd.ntmps138
    go_wp2_with (go_at_call 160; refine (both_any _ _ _ (by omega) (by omega) (by omega) (by omega)).mono ?_; rintro e w' ⟨rfl, rfl⟩)
    go_ret2
    exact ⟨rfl, rfl⟩
  · have hq : qdn x y = dn (x * 1000) y ∧ qup x y = up (x * 1000) y := by simp [qdn, qup]; omega
    rw [hq.1, hq.2]
    clear hq
    go_enter Tryd.func138, Tryd.ntmps138
    go_wp2_with (go_at_call 160; refine (both_any _ _ _ (by omega) (by omega) (by omega) (by omega)).mono ?_; rintro e w' ⟨rfl, rfl⟩)
    go_ret2
    exact ⟨rfl, rfl⟩
end Go.Proofs.YtafhcppigpjcpaaDoor
