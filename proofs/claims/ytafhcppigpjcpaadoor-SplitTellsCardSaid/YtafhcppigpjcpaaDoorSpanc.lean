/- The walks of slices.Min and slices.Max at ints, of span's two and corners, and of what calls them. -/
import Derived.Test.YtafhcppigpjcpaaDoorSpanb
set_option linter.unusedVariables false
set_option linter.unusedSimpArgs false
namespace Go.Proofs.YtafhcppigpjcpaaDoor
open Go.RowKit

def minL (l : List Int) : Int := l.tail.foldl min (l[0]?.getD 0)
def maxL (l : List Int) : Int := l.tail.foldl max (l[0]?.getD 0)
theorem take_snoc' (l : List Int) (k : Nat) (h : k < l.length) : l.take (k + 1) = l.take k ++ [l[k]?.getD 0] := by
  rw [List.take_succ_eq_append_getElem h, List.getElem?_eq_getElem h]; rfl
theorem minL_one (l : List Int) (h : 0 < l.length) : minL (l.take 1) = l[0]?.getD 0 := by
  cases l with
  | nil => simp at h
  | cons a l => simp [minL]
theorem minL_snoc (l : List Int) (k : Nat) (h0 : 0 < k) (h : k < l.length) : minL (l.take (k + 1)) = min (minL (l.take k)) (l[k]?.getD 0) := by
  rw [take_snoc' l k h]
  cases l with
  | nil => simp at h
  | cons a l =>
    obtain ⟨j, rfl⟩ : ∃ j, k = j + 1 := ⟨k - 1, by omega⟩
    simp [minL, List.foldl_append]
theorem maxL_one (l : List Int) (h : 0 < l.length) : maxL (l.take 1) = l[0]?.getD 0 := by
  cases l with
  | nil => simp at h
  | cons a l => simp [maxL]
theorem maxL_snoc (l : List Int) (k : Nat) (h0 : 0 < k) (h : k < l.length) : maxL (l.take (k + 1)) = max (maxL (l.take k)) (l[k]?.getD 0) := by
  rw [take_snoc' l k h]
  cases l with
  | nil => simp at h
  | cons a l =>
    obtain ⟨j, rfl⟩ : ∃ j, k = j + 1 := ⟨k - 1, by omega⟩
    simp [maxL, List.foldl_append]
theorem ret_int {a b : Int} (h : a = b) : Ending.returned (.int .i64 a) = .returned (.int .i64 b) := by rw [h]

set_option maxHeartbeats 400000 in
theorem slmin_any (A : Option Addr) (l : List Int) (c : Nat) (w : World) (h0 : 0 < l.length) (hl : l.length ≤ 1000) (hr : RdI w A l) :
    Calls Tryd.prog 158 #[.slice A l.length c] w fun e w' => e = .returned (.int .i64 (minL l)) ∧ w = w' := by
  obtain ⟨b, o, rfl, hb, hc⟩ := hr (by intro h; simp [h] at h0)
  have hc0 : w.cell? ⟨b, o, none⟩ = some (.int .i64 (l[0]?.getD 0)) := hc 0 h0
  have Hc := hid hc; clear hc
  go_enter Tryd.func158, Tryd.ntmps158
  go_wp2
  go_loop [3, 4] (fun m i => ∃ k : Nat, 1 ≤ k ∧ k ≤ l.length ∧ i = .int .i64 k ∧ m = .int .i64 (minL (l.take k))) (fun _ i => l.length - (intOf i).toNat)
  case atStart => exact ⟨1, by omega, by omega, rfl, by rw [minL_one l h0]; simp [h0]⟩
  case round =>
    obtain ⟨k, hk1, hk, rfl, rfl⟩ := hrel
    by_cases hlt : k < l.length
    · have hck := Hc.out k hlt
      have hs := hid (minL_snoc l k (by omega) hlt)
      have hg : l[k]?.getD 0 = l[k] := by simp [hlt]
      have hg := hid hg
      go_wp2
      all_goals
        go_round
        case rel => exact ⟨k + 1, by omega, by omega, by go_num, by rw [hs.out, hg.out]; congr 1; (try split) <;> omega⟩
        case measure => simp [intOf]; omega
    · go_wp2
      go_ret
      exact ⟨ret_int (by rw [List.take_of_length_le (by omega)]), rfl⟩
set_option maxHeartbeats 400000 in
theorem slmax_any (A : Option Addr) (l : List Int) (c : Nat) (w : World) (h0 : 0 < l.length) (hl : l.length ≤ 1000) (hr : RdI w A l) :
    Calls Tryd.prog 159 #[.slice A l.length c] w fun e w' => e = .returned (.int .i64 (maxL l)) ∧ w = w' := by
  obtain ⟨b, o, rfl, hb, hc⟩ := hr (by intro h; simp [h] at h0)
  have hc0 : w.cell? ⟨b, o, none⟩ = some (.int .i64 (l[0]?.getD 0)) := hc 0 h0
  have Hc := hid hc; clear hc
  go_enter Tryd.func159, Tryd.ntmps159
  go_wp2
  go_loop [3, 4] (fun m i => ∃ k : Nat, 1 ≤ k ∧ k ≤ l.length ∧ i = .int .i64 k ∧ m = .int .i64 (maxL (l.take k))) (fun _ i => l.length - (intOf i).toNat)
  case atStart => exact ⟨1, by omega, by omega, rfl, by rw [maxL_one l h0]; simp [h0]⟩
  case round =>
    obtain ⟨k, hk1, hk, rfl, rfl⟩ := hrel
    by_cases hlt : k < l.length
    · have hck := Hc.out k hlt
      have hs := hid (maxL_snoc l k (by omega) hlt)
      have hg : l[k]?.getD 0 = l[k] := by simp [hlt]
      have hg := hid hg
      go_wp2
      all_goals
        go_round
        case rel => exact ⟨k + 1, by omega, by omega, by go_num, by rw [hs.out, hg.out]; congr 1; (try split) <;> omega⟩
        case measure => simp [intOf]; omega
    · go_wp2
      go_ret
      exact ⟨ret_int (by rw [List.take_of_length_le (by omega)]), rfl⟩
end Go.Proofs.YtafhcppigpjcpaaDoor
