/- The walks of the packages unit (numbers alone) and span: each function comes to what the plain definition says. The walks of package span, but for two and corners. The walks of slices.Min and slices.Max at ints, of span's two and corners, and of what calls them. The walk of span.corners, and of Product and Quotient. The walks of span's Product, Quotient and two, and of what is made of any two. The walks of span's two, and of what is made of any two spans. The walks of package unit: fits, Times, By. -/
import Derived.Test.YtmjcnpolnknkkaaGreatDoorPBase
import Derived.Maps.AppendAt
import Derived.Shelf.Abstract
set_option linter.unusedVariables false
set_option linter.unusedSimpArgs false
namespace Go.Proofs.YtmjcnpolnknkkaaGreatDoor
open Go.RowKit

theorem may_any (n : Int) (w : World) :
    Calls Tryz.prog 39 #[.int .i64 n] w fun e w' => e = .returned (.bool (mayB n)) ∧ w = w' := by
  unfold mayB
  go_enter Tryz.func39, Tryz.ntmps39
  go_wp2
  all_goals go_ret
  all_goals simp [*]
  omega

theorem floor_tdiv (n k : Int) (hk : 0 < k) : dn n k = if Int.tmod n k < 0 then Int.tdiv n k - 1 else Int.tdiv n k := by
  unfold dn
  have h1 := Int.mul_tdiv_add_tmod n k
  have h2 := Int.tmod_lt_of_pos n hk
  have h3 := Int.lt_tmod_of_pos n hk
  split
  · have := (Int.ediv_emod_unique hk (a := n) (r := n.tmod k + k) (q := n.tdiv k - 1)).2 ⟨by rw [Int.mul_sub]; omega, by omega, by omega⟩
    exact this.1
  · have := (Int.ediv_emod_unique hk (a := n) (r := n.tmod k) (q := n.tdiv k)).2 ⟨by omega, by omega, by omega⟩
    exact this.1
theorem dn_bd (n k : Int) (hk : 0 < k) : (0 ≤ n → 0 ≤ dn n k ∧ dn n k ≤ n) ∧ (n < 0 → n ≤ dn n k ∧ dn n k < 0) := by
  unfold dn
  refine ⟨fun h => ⟨Int.ediv_nonneg h (by omega), Int.ediv_le_self _ h⟩, fun h => ⟨?_, Int.ediv_neg_of_neg_of_pos h hk⟩⟩
  rw [Int.le_ediv_iff_mul_le hk]
  have : n * k ≤ n * 1 := Int.mul_le_mul_of_nonpos_left (by omega) (by omega)
  omega
theorem tdiv_bd (n k : Int) (hk : 0 < k) (h1 : -4000000000000000000 ≤ n) (h2 : n ≤ 4000000000000000000) : -4000000000000000000 ≤ n.tdiv k ∧ n.tdiv k ≤ 4000000000000000000 := by
  have h := floor_tdiv n k hk
  have hb := dn_bd n k hk
  have hm := Int.mul_tdiv_add_tmod n k
  have h3 := Int.lt_tmod_of_pos n hk
  rcases Int.lt_or_le n 0 with hn | hn
  · have := hb.2 hn
    split at h <;> omega
  · have := hb.1 hn
    split at h
    · have h0 := Int.tmod_nonneg k hn
      omega
    · omega

theorem down_any (n k : Int) (w : World) (hk : 0 < k) (h1 : -4000000000000000000 ≤ n) (h2 : n ≤ 4000000000000000000) (h3 : k ≤ 4000000000000000000) :
    Calls Tryz.prog 114 #[.int .i64 n, .int .i64 k] w fun e w' => e = .returned (.int .i64 (dn n k)) ∧ w = w' := by
  obtain ⟨_, _⟩ := tdiv_bd n k hk h1 h2
  go_enter Tryz.func114, Tryz.ntmps114
  go_wp2
  all_goals go_ret
  · exact ⟨by rw [floor_tdiv n k hk, if_pos (by assumption)]; rfl, rfl⟩
  · exact ⟨by rw [floor_tdiv n k hk, if_neg (by omega)]; rfl, rfl⟩

theorem both_any (n k : Int) (w : World) (hk : 0 < k) (h1 : -4000000000000000000 ≤ n) (h2 : n ≤ 4000000000000000000) (h3 : k ≤ 4000000000000000000) :
    Calls Tryz.prog 81 #[.int .i64 n, .int .i64 k] w fun e w' => e = .returned (.tuple #[.int .i64 (dn n k), .int .i64 (up n k)]) ∧ w = w' := by
  obtain ⟨hp, hn⟩ := dn_bd (-n) k hk
  have _ : -4000000000000000000 ≤ dn (-n) k := by rcases Int.lt_or_le (-n) 0 with h | h <;> omega
  have _ : dn (-n) k ≤ 4000000000000000000 := by rcases Int.lt_or_le (-n) 0 with h | h <;> omega
  clear hp hn
  go_enter Tryz.func81, Tryz.ntmps81
  go_wp2_with (go_at_call 114; refine (down_any _ _ _ (by omega) (by omega) (by omega) (by omega)).mono ?_; rintro e w' ⟨rfl, rfl⟩)
  go_ret2
  exact ⟨rfl, rfl⟩

theorem uproduct_any (x y : Int) (w : World) (h1 : -4000000000000000000 ≤ x * y) (h2 : x * y ≤ 4000000000000000000) :
    Calls Tryz.prog 41 #[.int .i64 x, .int .i64 y] w fun e w' => e = .returned (.tuple #[.int .i64 (pdn x y), .int .i64 (pup x y)]) ∧ w = w' := by
  go_enter Tryz.func41, Tryz.ntmps41
  go_wp2_with (go_at_call 81; refine (both_any _ _ _ (by omega) (by omega) (by omega) (by omega)).mono ?_; rintro e w' ⟨rfl, rfl⟩)
  go_ret2
  exact ⟨rfl, rfl⟩

theorem uquotient_any (x y : Int) (w : World) (h1 : -2000000000 ≤ x) (h2 : x ≤ 2000000000) (h3 : -2000000000 ≤ y) (h4 : y ≤ 2000000000) (h0 : y ≠ 0) :
    Calls Tryz.prog 44 #[.int .i64 x, .int .i64 y] w fun e w' => e = .returned (.tuple #[.int .i64 (qdn x y), .int .i64 (qup x y)]) ∧ w = w' := by
  rcases Int.lt_or_le y 0 with hy | hy
  · have hq : qdn x y = dn (-x * 1000) (-y) ∧ qup x y = up (-x * 1000) (-y) := by simp [qdn, qup, hy]
    rw [hq.1, hq.2]
    clear hq
    go_enter Tryz.func44, Tryz.ntmps44
    go_wp2_with (go_at_call 81; refine (both_any _ _ _ (by omega) (by omega) (by omega) (by omega)).mono ?_; rintro e w' ⟨rfl, rfl⟩)
    go_ret2
    exact ⟨rfl, rfl⟩
  · have hq : qdn x y = dn (x * 1000) y ∧ qup x y = up (x * 1000) y := by simp [qdn, qup]; omega
    rw [hq.1, hq.2]
    clear hq
    go_enter Tryz.func44, Tryz.ntmps44
    go_wp2_with (go_at_call 81; refine (both_any _ _ _ (by omega) (by omega) (by omega) (by omega)).mono ?_; rintro e w' ⟨rfl, rfl⟩)
    go_ret2
    exact ⟨rfl, rfl⟩
end Go.Proofs.YtmjcnpolnknkkaaGreatDoor

namespace Go.Proofs.YtmjcnpolnknkkaaGreatDoor
open Go.RowKit

theorem check_any (lo hi : Int) (w : World) :
    Calls Tryz.prog 106 #[.agg #[.int .i64 lo, .int .i64 hi]] w (RetX errV (checkF ⟨lo, hi⟩) w) := by
  go_enter Tryz.func106, Tryz.ntmps106
  go_wp2_with (go_at_call 39; refine (may_any _ _).mono ?_; rintro e w' ⟨rfl, rfl⟩)
  all_goals
    go_ret
    first
      | refine RetX.mk (some 1) ?_ (by simp_all [checkF, mayB_true, mayB_false]) rfl
      | refine RetX.mk (some 3) ?_ (by simp_all [checkF, mayB_true, mayB_false]; try omega) rfl
      | refine RetX.mk none ?_ (by simp_all [checkF, mayB_true, mayB_false]; try omega) rfl
    (repeat (first | (with_reducible exact Up.refl _) | (with_reducible assumption) | (with_reducible refine Up.alloc ?_ _) | (with_reducible refine Up.drew ?_) | ((with_reducible refine Up.set ?_ ?_ _); rotate_left; focus (first | omega | (simp; done) | (simp; omega))) | (with_reducible refine Up.drewN ?_ _) | (with_reducible refine Up.call ?_ (by with_reducible assumption))))
theorem alone_any (n : Int) (w : World) :
    Calls Tryz.prog 142 #[.int .i64 n] w (RetX spV ⟨n, n⟩ w) := by
  go_enter Tryz.func142, Tryz.ntmps142
  go_wp2
  all_goals
    (refine bodyPost_res rfl ?_; simp only [results, Tryz.results142]; go_simp; refine resPost_ok ?_)
    refine RetX.same ?_ rfl
    (repeat (first | (with_reducible exact Up.refl _) | (with_reducible assumption) | (with_reducible refine Up.alloc ?_ _) | (with_reducible refine Up.drew ?_) | ((with_reducible refine Up.set ?_ ?_ _); rotate_left; focus (first | omega | (simp; done) | (simp; omega))) | (with_reducible refine Up.drewN ?_ _) | (with_reducible refine Up.call ?_ (by with_reducible assumption))))
theorem fits_any (lo hi : Int) (w : World) :
    Calls Tryz.prog 151 #[.agg #[.int .i64 lo, .int .i64 hi]] w (RetX spR (fitsF ⟨lo, hi⟩) w) := by
  go_enter Tryz.func151, Tryz.ntmps151
  go_wp2_with (go_at_call 39; refine (may_any _ _).mono ?_; rintro e w' ⟨rfl, rfl⟩)
  all_goals
    (refine bodyPost_res rfl ?_; simp only [results, Tryz.results151]; go_simp; refine resPost_ok ?_)
    first
      | refine RetX.mk (.error 4) ?_ (by simp_all [fitsF, mayB_true, mayB_false]) rfl
      | refine RetX.mk (.ok ⟨lo, hi⟩) ?_ (by simp_all [fitsF, mayB_true, mayB_false]) rfl
    (repeat (first | (with_reducible exact Up.refl _) | (with_reducible assumption) | (with_reducible refine Up.alloc ?_ _) | (with_reducible refine Up.drew ?_) | ((with_reducible refine Up.set ?_ ?_ _); rotate_left; focus (first | omega | (simp; done) | (simp; omega))) | (with_reducible refine Up.drewN ?_ _) | (with_reducible refine Up.call ?_ (by with_reducible assumption))))
theorem zero_any (lo hi : Int) (w : World) :
    Calls Tryz.prog 188 #[.agg #[.int .i64 lo, .int .i64 hi]] w (RetX boolV (zeroF ⟨lo, hi⟩) w) := by
  go_enter Tryz.func188, Tryz.ntmps188
  go_wp2
  all_goals
    go_ret
    refine RetX.mk _ ?_ rfl (by simp_all [zeroF, boolV]; try omega)
    (repeat (first | (with_reducible exact Up.refl _) | (with_reducible assumption) | (with_reducible refine Up.alloc ?_ _) | (with_reducible refine Up.drew ?_) | ((with_reducible refine Up.set ?_ ?_ _); rotate_left; focus (first | omega | (simp; done) | (simp; omega))) | (with_reducible refine Up.drewN ?_ _) | (with_reducible refine Up.call ?_ (by with_reducible assumption))))
theorem sum_any (lo hi lo' hi' : Int) (w : World) (h1 : M lo) (h2 : M hi) (h3 : M lo') (h4 : M hi') :
    Calls Tryz.prog 105 #[.agg #[.int .i64 lo, .int .i64 hi], .agg #[.int .i64 lo', .int .i64 hi']] w (RetX spR (sumF ⟨lo, hi⟩ ⟨lo', hi'⟩) w) := by
  obtain ⟨_, _⟩ := h1; obtain ⟨_, _⟩ := h2; obtain ⟨_, _⟩ := h3; obtain ⟨_, _⟩ := h4
  go_enter Tryz.func105, Tryz.ntmps105
  go_wp2_with ((go_at_call 151; refine (fits_any _ _ _).mono ?_; rintro e w' ⟨(n|s), hx, rfl, hb⟩) <;> obtain ⟨hc, hf⟩ := bcell hb)
  all_goals
    (refine bodyPost_res rfl ?_; simp only [results, Tryz.results105]; go_simp; refine resPost_ok ?_)
    first
      | refine RetX.mk (.error n) ?_ hx rfl
      | refine RetX.mk (.ok s) ?_ hx rfl
    (repeat (first | (with_reducible exact Up.refl _) | (with_reducible assumption) | (with_reducible refine Up.alloc ?_ _) | (with_reducible refine Up.drew ?_) | ((with_reducible refine Up.set ?_ ?_ _); rotate_left; focus (first | omega | (simp; done) | (simp; omega))) | (with_reducible refine Up.drewN ?_ _) | (with_reducible refine Up.call ?_ (by with_reducible assumption))))
theorem rest_any (lo hi lo' hi' : Int) (w : World) (h1 : M lo) (h2 : M hi) (h3 : M lo') (h4 : M hi') :
    Calls Tryz.prog 147 #[.agg #[.int .i64 lo, .int .i64 hi], .agg #[.int .i64 lo', .int .i64 hi']] w (RetX spR (restF ⟨lo, hi⟩ ⟨lo', hi'⟩) w) := by
  obtain ⟨_, _⟩ := h1; obtain ⟨_, _⟩ := h2; obtain ⟨_, _⟩ := h3; obtain ⟨_, _⟩ := h4
  go_enter Tryz.func147, Tryz.ntmps147
  go_wp2_with ((go_at_call 151; refine (fits_any _ _ _).mono ?_; rintro e w' ⟨(n|s), hx, rfl, hb⟩) <;> obtain ⟨hc, hf⟩ := bcell hb)
  all_goals
    (refine bodyPost_res rfl ?_; simp only [results, Tryz.results147]; go_simp; refine resPost_ok ?_)
    first
      | refine RetX.mk (.error n) ?_ hx rfl
      | refine RetX.mk (.ok s) ?_ hx rfl
    (repeat (first | (with_reducible exact Up.refl _) | (with_reducible assumption) | (with_reducible refine Up.alloc ?_ _) | (with_reducible refine Up.drew ?_) | ((with_reducible refine Up.set ?_ ?_ _); rotate_left; focus (first | omega | (simp; done) | (simp; omega))) | (with_reducible refine Up.drewN ?_ _) | (with_reducible refine Up.call ?_ (by with_reducible assumption))))
theorem both_span (lo hi lo' hi' : Int) (w : World) :
    Calls Tryz.prog 113 #[.agg #[.int .i64 lo, .int .i64 hi], .agg #[.int .i64 lo', .int .i64 hi']] w (RetX spV (bothF ⟨lo, hi⟩ ⟨lo', hi'⟩) w) := by
  go_enter Tryz.func113, Tryz.ntmps113
  go_wp2
  all_goals
    (refine bodyPost_res rfl ?_; simp only [results, Tryz.results113]; go_simp; refine resPost_ok ?_)
    refine RetX.same ?_ (by simp [bothF, spV]; omega)
    (repeat (first | (with_reducible exact Up.refl _) | (with_reducible assumption) | (with_reducible refine Up.alloc ?_ _) | (with_reducible refine Up.drew ?_) | ((with_reducible refine Up.set ?_ ?_ _); rotate_left; focus (first | omega | (simp; done) | (simp; omega))) | (with_reducible refine Up.drewN ?_ _) | (with_reducible refine Up.call ?_ (by with_reducible assumption))))
theorem common_any (lo hi lo' hi' : Int) (w : World) :
    Calls Tryz.prog 148 #[.agg #[.int .i64 lo, .int .i64 hi], .agg #[.int .i64 lo', .int .i64 hi']] w (RetX spR (comF ⟨lo, hi⟩ ⟨lo', hi'⟩) w) := by
  go_enter Tryz.func148, Tryz.ntmps148
  go_wp2
  all_goals
    (refine bodyPost_res rfl ?_; simp only [results, Tryz.results148]; go_simp; refine resPost_ok ?_)
    first
      | refine RetX.mk (.error 5) ?_ (by simp only [comF]; rw [if_pos (by omega)]) rfl
      | refine RetX.mk (.ok ⟨max lo lo', min hi hi'⟩) ?_ (by simp only [comF]; rw [if_neg (by omega)]) (by simp [spR]; omega)
    (repeat (first | (with_reducible exact Up.refl _) | (with_reducible assumption) | (with_reducible refine Up.alloc ?_ _) | (with_reducible refine Up.drew ?_) | ((with_reducible refine Up.set ?_ ?_ _); rotate_left; focus (first | omega | (simp; done) | (simp; omega))) | (with_reducible refine Up.drewN ?_ _) | (with_reducible refine Up.call ?_ (by with_reducible assumption))))
end Go.Proofs.YtmjcnpolnknkkaaGreatDoor

namespace Go.Proofs.YtmjcnpolnknkkaaGreatDoor
open Go.RowKit

def minL (l : List Int) : Int := l.tail.foldl min (l[0]?.getD 0)
def maxL (l : List Int) : Int := l.tail.foldl max (l[0]?.getD 0)
theorem take_snoc' (l : List Int) (k : Nat) (h : k < l.length) : l.take (k + 1) = l.take k ++ [l[k]?.getD 0] := by
  rw [List.take_succ_eq_append_getElem h, List.getElem?_eq_getElem h]; rfl
theorem minL_one (l : List Int) (h : 0 < l.length) : minL (l.take 1) = l[0]?.getD 0 := by
  cases l with
  | nil => simp at h
  | cons a l => simp [minL]
theorem minL_snoc (l : List Int) (k : Nat) (h0 : 0 < k) (h : k < l.length) : minL (l.take (k + 1)) = min (minL (l.take k)) (l[k]?.getD 0) := by
  rw [take_snoc' l k h]
  cases l with
  | nil => simp at h
  | cons a l =>
    obtain ⟨j, rfl⟩ : ∃ j, k = j + 1 := ⟨k - 1, by omega⟩
    simp [minL, List.foldl_append]
theorem maxL_one (l : List Int) (h : 0 < l.length) : maxL (l.take 1) = l[0]?.getD 0 := by
  cases l with
  | nil => simp at h
  | cons a l => simp [maxL]
theorem maxL_snoc (l : List Int) (k : Nat) (h0 : 0 < k) (h : k < l.length) : maxL (l.take (k + 1)) = max (maxL (l.take k)) (l[k]?.getD 0) := by
  rw [take_snoc' l k h]
  cases l with
  | nil => simp at h
  | cons a l =>
    obtain ⟨j, rfl⟩ : ∃ j, k = j + 1 := ⟨k - 1, by omega⟩
    simp [maxL, List.foldl_append]
theorem ret_int {a b : Int} (h : a = b) : Ending.returned (.int .i64 a) = .returned (.int .i64 b) := by rw [h]

set_option maxHeartbeats 400000 in
theorem slmin_any (A : Option Addr) (l : List Int) (c : Nat) (w : World) (h0 : 0 < l.length) (hl : l.length ≤ 1000) (hr : RdI w A l) :
    Calls Tryz.prog 207 #[.slice A l.length c] w fun e w' => e = .returned (.int .i64 (minL l)) ∧ w = w' := by
  obtain ⟨b, o, rfl, hb, hc⟩ := hr (by intro h; simp [h] at h0)
  have hc0 : w.cell? ⟨b, o, none⟩ = some (.int .i64 (l[0]?.getD 0)) := hc 0 h0
  have Hc := hid hc; clear hc
  go_enter Tryz.func207, Tryz.ntmps207
  go_wp2
  go_loop [3, 4] (fun m i => ∃ k : Nat, 1 ≤ k ∧ k ≤ l.length ∧ i = .int .i64 k ∧ m = .int .i64 (minL (l.take k))) (fun _ i => l.length - (intOf i).toNat)
  case atStart => exact ⟨1, by omega, by omega, rfl, by rw [minL_one l h0]; simp [h0]⟩
  case round =>
    obtain ⟨k, hk1, hk, rfl, rfl⟩ := hrel
    by_cases hlt : k < l.length
    · have hck := Hc.out k hlt
      have hs := hid (minL_snoc l k (by omega) hlt)
      have hg : l[k]?.getD 0 = l[k] := by simp [hlt]
      have hg := hid hg
      go_wp2
      all_goals
        go_round
        case rel => exact ⟨k + 1, by omega, by omega, by go_num, by rw [hs.out, hg.out]; congr 1; (try split) <;> omega⟩
        case measure => simp [intOf]; omega
    · go_wp2
      go_ret
      exact ⟨ret_int (by rw [List.take_of_length_le (by omega)]), rfl⟩
set_option maxHeartbeats 400000 in
theorem slmax_any (A : Option Addr) (l : List Int) (c : Nat) (w : World) (h0 : 0 < l.length) (hl : l.length ≤ 1000) (hr : RdI w A l) :
    Calls Tryz.prog 208 #[.slice A l.length c] w fun e w' => e = .returned (.int .i64 (maxL l)) ∧ w = w' := by
  obtain ⟨b, o, rfl, hb, hc⟩ := hr (by intro h; simp [h] at h0)
  have hc0 : w.cell? ⟨b, o, none⟩ = some (.int .i64 (l[0]?.getD 0)) := hc 0 h0
  have Hc := hid hc; clear hc
  go_enter Tryz.func208, Tryz.ntmps208
  go_wp2
  go_loop [3, 4] (fun m i => ∃ k : Nat, 1 ≤ k ∧ k ≤ l.length ∧ i = .int .i64 k ∧ m = .int .i64 (maxL (l.take k))) (fun _ i => l.length - (intOf i).toNat)
  case atStart => exact ⟨1, by omega, by omega, rfl, by rw [maxL_one l h0]; simp [h0]⟩
  case round =>
    obtain ⟨k, hk1, hk, rfl, rfl⟩ := hrel
    by_cases hlt : k < l.length
    · have hck := Hc.out k hlt
      have hs := hid (maxL_snoc l k (by omega) hlt)
      have hg : l[k]?.getD 0 = l[k] := by simp [hlt]
      have hg := hid hg
      go_wp2
      all_goals
        go_round
        case rel => exact ⟨k + 1, by omega, by omega, by go_num, by rw [hs.out, hg.out]; congr 1; (try split) <;> omega⟩
        case measure => simp [intOf]; omega
    · go_wp2
      go_ret
      exact ⟨ret_int (by rw [List.take_of_length_le (by omega)]), rfl⟩
end Go.Proofs.YtmjcnpolnknkkaaGreatDoor

namespace Go.Proofs.YtmjcnpolnknkkaaGreatDoor
open Go.RowKit
theorem Tryz.infoInt : (Tryz.prog.info? 3).map (fun i => (i.zero, i.size, i.bytes)) = some (some (.int .i64 0), 1, 8) := by kernel_rfl

def ints (l : List Int) : List Value := l.map (.int .i64)
theorem ints_snoc (l : List Int) (x : Int) : ints l ++ [.int .i64 x] = ints (l ++ [x]) := by simp [ints]

/-- Two rows of the call's own, apart from each other; below W0's end nothing has turned. -/
structure Two (W0 wr : World) (v8 v9 : Value) (L H : List Int) : Prop where
  up : Up W0 wr
  own8 : wr.ownsRow W0.heap.size 3 1 v8 L.length (ints L)
  own9 : wr.ownsRow W0.heap.size 3 1 v9 H.length (ints H)
  apart : v8.ownBlock = none ∨ v8.ownBlock ≠ v9.ownBlock

def outL (f : Int → Int → Int) (lo hi lo' hi' : Int) : Nat → List Int
  | 0 => []
  | 1 => [f lo lo', f lo hi']
  | _ => [f lo lo', f lo hi', f hi lo', f hi hi']
def inL (f : Int → Int → Int) (x lo' hi' : Int) : Nat → List Int
  | 0 => []
  | 1 => [f x lo']
  | _ => [f x lo', f x hi']

theorem Two.kept {W0 wr w' : World} {v8 v9 : Value} {L H : List Int} (h : Two W0 wr v8 v9 L H) (hg : Up wr w') : Two W0 w' v8 v9 L H :=
  ⟨h.up.call hg, h.own8.kept (row := none) ⟨hg.os, hg.tape, hg.output, hg.size, fun k hk _ => hg.block k hk⟩ (by cases v8.ownBlock <;> simp), h.own9.kept (row := none) ⟨hg.os, hg.tape, hg.output, hg.size, fun k hk _ => hg.block k hk⟩ (by cases v9.ownBlock <;> simp), h.apart⟩

theorem Two.put8 {W0 wr w' : World} {v8 v8' v9 : Value} {L H : List Int} {x : Int} (h : Two W0 wr v8 v9 L H)
    (ho : w'.ownsRow W0.heap.size 3 1 v8' (L.length + 1) (ints L ++ [.int .i64 x])) (hg : wr.grownBy w' v8.ownBlock) (ha : v8'.ownBlock = v8.ownBlock ∨ v8'.ownBlock = some wr.heap.size) :
    Two W0 w' v8' v9 (L ++ [x]) H := by
  have h9 := h.own9.lt
  refine ⟨Below.grown h.up hg h.up.le (fun k hk => (h.own8.lt k hk).1), ?_, h.own9.kept hg ?_, ?_⟩
  · rw [ints_snoc] at ho; simpa using ho
  · rcases h.apart with e | e
    · cases h9v : v9.ownBlock with
      | none => simp
      | some k => rw [e]; simp
    · exact .inr (fun e' => e e'.symm)
  · rcases ha with e | e
    · rw [e]; exact h.apart
    · rw [e]
      refine .inr (fun e' => ?_)
      have := (h9 _ e'.symm).2
      omega
theorem Two.put9 {W0 wr w' : World} {v8 v9' v9 : Value} {L H : List Int} {x : Int} (h : Two W0 wr v8 v9 L H)
    (ho : w'.ownsRow W0.heap.size 3 1 v9' (H.length + 1) (ints H ++ [.int .i64 x])) (hg : wr.grownBy w' v9.ownBlock) (ha : v9'.ownBlock = v9.ownBlock ∨ v9'.ownBlock = some wr.heap.size) :
    Two W0 w' v8 v9' L (H ++ [x]) := by
  have h8 := h.own8.lt
  refine ⟨Below.grown h.up hg h.up.le (fun k hk => (h.own9.lt k hk).1), h.own8.kept hg h.apart, ?_, ?_⟩
  · rw [ints_snoc] at ho; simpa using ho
  · rcases ha with e | e
    · rw [e]; exact h.apart
    · rw [e]
      cases h8v : v8.ownBlock with
      | none => simp
      | some k =>
        refine .inr (fun e' => ?_)
        have := (h8 _ h8v).2
        simp at e'
        omega

theorem len_rows (f : Int → Int → Int) (lo hi lo' hi' x : Int) (k j : Nat) (hk : k < 2) (hj : j < 2) : (outL f lo hi lo' hi' k ++ inL f x lo' hi' j).length ≤ 4 := by
  match k, hk, j, hj with
  | 0, _, 0, _ => simp [outL, inL]
  | 0, _, 1, _ => simp [outL, inL]
  | 1, _, 0, _ => simp [outL, inL]
  | 1, _, 1, _ => simp [outL, inL]
theorem lt_of_cell {w : World} {n o : Nat} {v : Value} (h : w.cell? ⟨n, o, none⟩ = some v) : n < w.heap.size := World.block_lt_of_cell? w _ h
theorem own_form {w : World} {base e size n : Nat} {v : Value} {xs : List Value} (h : w.ownsRow base e size v n xs) (hn : 0 < n) : ∃ g c, v = .slice (some ⟨g, 0, none⟩) n c ∧ base ≤ g ∧ g < w.heap.size := by
  rcases h.2 with ⟨_, h0⟩ | ⟨g, cap, cur, hv, hb, hg, _⟩
  · omega
  · exact ⟨g, cap, hv, hb, (Array.getElem?_eq_some_iff.1 hg).1⟩
theorem rdi_own {w : World} {base g c n : Nat} {v : Value} {l : List Int} (h : w.ownsRow base 3 1 v n (ints l)) (hv : v = .slice (some ⟨g, 0, none⟩) n c) (hg : g < w.heap.size) : RdI w (some ⟨g, 0, none⟩) l := fun _ => by
  subst hv
  refine ⟨g, 0, rfl, hg, fun k hk => ?_⟩
  have := h.cells (g := g) rfl k (.int .i64 (l[k]?.getD 0)) (by simp [ints, hk])
  rw [show (⟨g, 0, none⟩ : Addr).add k = ⟨g, 0 + k, none⟩ from by unfold Addr.add; split <;> simp_all] at this
  exact this
/-- a block that is no row of the call's own holds what it held -/
theorem cell_far {w w' : World} {n o : Nat} {v : Value} {row : Option Nat} (hg : w.grownBy w' row) (h : w.cell? ⟨n, o, none⟩ = some v) (hn : row ≠ some n) : w'.cell? ⟨n, o, none⟩ = some v :=
  hg.cell h (fun e => hn e.symm)
set_option maxRecDepth 100000 in
set_option maxHeartbeats 800000 in
theorem corners_any (K : Nat) (hen : ∀ args w, (callFunc K args).run Tryz.prog w = .ok (.enter K args) w) (f g : Int → Int → Int) (lo hi lo' hi' : Int) (w : World)
    (hof : ∀ x y W, (x = lo ∨ x = hi) → (y = lo' ∨ y = hi') → Calls Tryz.prog K #[.int .i64 x, .int .i64 y] W fun e W' => e = .returned (.tuple #[.int .i64 (f x y), .int .i64 (g x y)]) ∧ W = W') :
    Calls Tryz.prog 189 #[.agg #[.int .i64 lo, .int .i64 hi], .agg #[.int .i64 lo', .int .i64 hi'], .func (.func K) #[] #[]] w (RetX spR (cornersF f g ⟨lo, hi⟩ ⟨lo', hi'⟩) w) := by
  obtain ⟨i0, hi0, hz0, hz1, hz2⟩ := info_parts Tryz.infoInt
  have Hof := hid hof; clear hof
  go_enter Tryz.func189, Tryz.ntmps189
  go_wp2
  have hu : Up w (((((w).alloc (Obj.cells #[Value.int IntKind.i64 lo, Value.int IntKind.i64 hi] 24)).alloc (Obj.cells #[Value.int IntKind.i64 lo', Value.int IntKind.i64 hi'] 24)).alloc (Obj.cells #[Value.int IntKind.i64 0, Value.int IntKind.i64 0] 24)).alloc (Obj.cells #[Value.int IntKind.i64 lo, Value.int IntKind.i64 hi] 3)) := (((((Up.refl _).alloc _).alloc _).alloc _).alloc _)
  have hs0 : w.heap.size + 1 + 1 + 1 < (((((w).alloc (Obj.cells #[Value.int IntKind.i64 lo, Value.int IntKind.i64 hi] 24)).alloc (Obj.cells #[Value.int IntKind.i64 lo', Value.int IntKind.i64 hi'] 24)).alloc (Obj.cells #[Value.int IntKind.i64 0, Value.int IntKind.i64 0] 24)).alloc (Obj.cells #[Value.int IntKind.i64 lo, Value.int IntKind.i64 hi] 3)).heap.size := by simp
  have c0 : (((((w).alloc (Obj.cells #[Value.int IntKind.i64 lo, Value.int IntKind.i64 hi] 24)).alloc (Obj.cells #[Value.int IntKind.i64 lo', Value.int IntKind.i64 hi'] 24)).alloc (Obj.cells #[Value.int IntKind.i64 0, Value.int IntKind.i64 0] 24)).alloc (Obj.cells #[Value.int IntKind.i64 lo, Value.int IntKind.i64 hi] 3)).cell? ⟨w.heap.size + 1 + 1 + 1, 0, none⟩ = some (.int .i64 lo) := by go_simp
  have c1 : (((((w).alloc (Obj.cells #[Value.int IntKind.i64 lo, Value.int IntKind.i64 hi] 24)).alloc (Obj.cells #[Value.int IntKind.i64 lo', Value.int IntKind.i64 hi'] 24)).alloc (Obj.cells #[Value.int IntKind.i64 0, Value.int IntKind.i64 0] 24)).alloc (Obj.cells #[Value.int IntKind.i64 lo, Value.int IntKind.i64 hi] 3)).cell? ⟨w.heap.size + 1 + 1 + 1, 1, none⟩ = some (.int .i64 hi) := by go_simp
  have c2 : (((((w).alloc (Obj.cells #[Value.int IntKind.i64 lo, Value.int IntKind.i64 hi] 24)).alloc (Obj.cells #[Value.int IntKind.i64 lo', Value.int IntKind.i64 hi'] 24)).alloc (Obj.cells #[Value.int IntKind.i64 0, Value.int IntKind.i64 0] 24)).alloc (Obj.cells #[Value.int IntKind.i64 lo, Value.int IntKind.i64 hi] 3)).cell? ⟨w.heap.size + 1, 0, none⟩ = some (.int .i64 lo') := by go_simp
  have c3 : (((((w).alloc (Obj.cells #[Value.int IntKind.i64 lo, Value.int IntKind.i64 hi] 24)).alloc (Obj.cells #[Value.int IntKind.i64 lo', Value.int IntKind.i64 hi'] 24)).alloc (Obj.cells #[Value.int IntKind.i64 0, Value.int IntKind.i64 0] 24)).alloc (Obj.cells #[Value.int IntKind.i64 lo, Value.int IntKind.i64 hi] 3)).cell? ⟨w.heap.size + 1, 1, none⟩ = some (.int .i64 hi') := by go_simp
  have c4 : (((((w).alloc (Obj.cells #[Value.int IntKind.i64 lo, Value.int IntKind.i64 hi] 24)).alloc (Obj.cells #[Value.int IntKind.i64 lo', Value.int IntKind.i64 hi'] 24)).alloc (Obj.cells #[Value.int IntKind.i64 0, Value.int IntKind.i64 0] 24)).alloc (Obj.cells #[Value.int IntKind.i64 lo, Value.int IntKind.i64 hi] 3)).cell? ⟨w.heap.size + 1 + 1, 0, none⟩ = some (.int .i64 0) := by go_simp
  have c5 : (((((w).alloc (Obj.cells #[Value.int IntKind.i64 lo, Value.int IntKind.i64 hi] 24)).alloc (Obj.cells #[Value.int IntKind.i64 lo', Value.int IntKind.i64 hi'] 24)).alloc (Obj.cells #[Value.int IntKind.i64 0, Value.int IntKind.i64 0] 24)).alloc (Obj.cells #[Value.int IntKind.i64 lo, Value.int IntKind.i64 hi] 3)).cell? ⟨w.heap.size + 1 + 1, 1, none⟩ = some (.int .i64 0) := by go_simp
  have f4 : ∀ o, (((((w).alloc (Obj.cells #[Value.int IntKind.i64 lo, Value.int IntKind.i64 hi] 24)).alloc (Obj.cells #[Value.int IntKind.i64 lo', Value.int IntKind.i64 hi'] 24)).alloc (Obj.cells #[Value.int IntKind.i64 0, Value.int IntKind.i64 0] 24)).alloc (Obj.cells #[Value.int IntKind.i64 lo, Value.int IntKind.i64 hi] 3)).frozen? ⟨w.heap.size + 1 + 1, o, none⟩ = false := by intro o; go_simp
  generalize (((((w).alloc (Obj.cells #[Value.int IntKind.i64 lo, Value.int IntKind.i64 hi] 24)).alloc (Obj.cells #[Value.int IntKind.i64 lo', Value.int IntKind.i64 hi'] 24)).alloc (Obj.cells #[Value.int IntKind.i64 0, Value.int IntKind.i64 0] 24)).alloc (Obj.cells #[Value.int IntKind.i64 lo, Value.int IntKind.i64 hi] 3)) = W0 at *
  go_loopw [8, 9, 22] (fun v8 v9 i wr => ∃ k : Nat, k ≤ 2 ∧ i = .int .i64 k ∧ Two W0 wr v8 v9 (outL f lo hi lo' hi' k) (outL g lo hi lo' hi' k)) (fun _ _ i _ => 2 - (intOf i).toNat)
  case atStart => exact ⟨0, by omega, rfl, Up.refl _, World.ownsRow_nil _ _ _ _, World.ownsRow_nil _ _ _ _, .inl rfl⟩
  case round =>
    obtain ⟨k, hk, rfl, hT⟩ := hrel
    have hb := hT.up
    obtain ⟨hc, hf⟩ := bcell hb
    obtain ⟨s0, s1, s2, s3⟩ : w.heap.size < W0.heap.size ∧ w.heap.size + 1 < W0.heap.size ∧ w.heap.size + 1 + 1 < W0.heap.size ∧ w.heap.size + 1 + 1 < wr.heap.size := by have := hb.le; omega
    by_cases hlt : k < 2
    · obtain ⟨x, hx, ck, hout⟩ : ∃ x, (x = lo ∨ x = hi) ∧ W0.cell? ⟨w.heap.size + 1 + 1 + 1, k, none⟩ = some (.int .i64 x) ∧ ∀ h : Int → Int → Int, outL h lo hi lo' hi' (k + 1) = outL h lo hi lo' hi' k ++ inL h x lo' hi' 2 := by
        match k, hlt with
        | 0, _ => exact ⟨lo, .inl rfl, c0, fun h => rfl⟩
        | 1, _ => exact ⟨hi, .inr rfl, c1, fun h => rfl⟩
      have Hx := hid hx; have Hout := hid hout; clear hx hout c0 c1
      have hd : decide ((k : Int) < 2) = true := by simp; omega
      go_wp2
      have hT1 := hT.kept ((Up.refl wr).alloc (Obj.cells #[Value.int IntKind.i64 lo', Value.int IntKind.i64 hi'] 3))
      have b30 : wr.heap.size < (wr.alloc (Obj.cells #[Value.int IntKind.i64 lo', Value.int IntKind.i64 hi'] 3)).heap.size := by simp
      have d0 : (wr.alloc (Obj.cells #[Value.int IntKind.i64 lo', Value.int IntKind.i64 hi'] 3)).cell? ⟨wr.heap.size, 0, none⟩ = some (.int .i64 lo') := by go_simp
      have d1 : (wr.alloc (Obj.cells #[Value.int IntKind.i64 lo', Value.int IntKind.i64 hi'] 3)).cell? ⟨wr.heap.size, 1, none⟩ = some (.int .i64 hi') := by go_simp
      have n8 : u8.ownBlock ≠ some wr.heap.size := fun e => by have := (hT.own8.lt _ e).2; omega
      have n9 : u9.ownBlock ≠ some wr.heap.size := fun e => by have := (hT.own9.lt _ e).2; omega
      have H30 := hid (show W0.heap.size ≤ wr.heap.size from hT.up.le)
      clear hT hb hc hf
      generalize (wr.alloc (Obj.cells #[Value.int IntKind.i64 lo', Value.int IntKind.i64 hi'] 3)) = W1 at *
      generalize wr.heap.size = n30 at *
      go_loopw [8, 9, 32] (fun v8 v9 i w2 => ∃ j : Nat, j ≤ 2 ∧ i = .int .i64 j ∧ Two W0 w2 v8 v9 (outL f lo hi lo' hi' k ++ inL f x lo' hi' j) (outL g lo hi lo' hi' k ++ inL g x lo' hi' j) ∧
        w2.cell? ⟨n30, 0, none⟩ = some (.int .i64 lo') ∧ w2.cell? ⟨n30, 1, none⟩ = some (.int .i64 hi') ∧ v8.ownBlock ≠ some n30 ∧ v9.ownBlock ≠ some n30) (fun _ _ i _ => 2 - (intOf i).toNat)
      case atStart => exact ⟨0, by omega, rfl, by simpa [inL] using hT1, d0, d1, n8, n9⟩
      case round =>
        obtain ⟨j, hj, rfl, hT2, e0, e1, m8, m9⟩ := hrel
        clear d0 d1 n8 n9 hT1
        by_cases hlj : j < 2
        · obtain ⟨y, hy, ej, hin⟩ : ∃ y, (y = lo' ∨ y = hi') ∧ wr.cell? ⟨n30, j, none⟩ = some (.int .i64 y) ∧ ∀ h : Int → Int → Int, inL h x lo' hi' (j + 1) = inL h x lo' hi' j ++ [h x y] := by
            match j, hlj with
            | 0, _ => exact ⟨lo', .inl rfl, e0, fun h => rfl⟩
            | 1, _ => exact ⟨hi', .inr rfl, e1, fun h => rfl⟩
          have Hy := hid hy; have Hin := hid hin; have E0 := hid e0; have E1 := hid e1; clear hy hin e0 e1
          have hdj : decide ((j : Int) < 2) = true := by simp; omega
          have HL8 := hid (len_rows f lo hi lo' hi' x k j hlt hlj)
          have HL9 := hid (len_rows g lo hi lo' hi' x k j hlt hlj)
          have M8 := hid m8; have M9 := hid m9; clear m8 m9
          go_wp2_with (first
                        | (refine (Hof.out x y _ Hx.out Hy.out).mono ?_; rintro e w' ⟨rfl, rfl⟩)
                        | (at_builtin; refine wpList_append_own_at _ rfl (.tmp 43) (.tmp 45) _ rfl W0.heap.size 3 i0 (.int .i64 0) 1 8 Tryz.underlying71 hi0 hz0 hz1 hz2 rfl (by decide) _ _ _ rfl (hT2.own8.alloc _) ⟨wr.heap.size, 0, none⟩ 1 1 [.int .i64 (f x y)] rfl rfl (cell_one_new _ _ _) (by simp [Value.oneCell']) (by have := HL8.out; unfold maxLen; omega) (by have := HL8.out; omega) (by have := hT2.up.le; simp; omega) ?_; intro v8 w1 own8 g8 _ at8; have hT3 := hid ((hT2.kept ((Up.refl wr).alloc _)).put8 own8 g8 at8); clear own8)
                        | (at_builtin; refine wpList_append_own_at _ rfl (.tmp 47) (.tmp 49) _ rfl W0.heap.size 3 i0 (.int .i64 0) 1 8 Tryz.underlying71 hi0 hz0 hz1 hz2 rfl (by decide) _ _ _ rfl (hT3.out.own9.alloc _) ⟨w1.heap.size, 0, none⟩ 1 1 [.int .i64 (g x y)] rfl rfl (cell_one_new _ _ _) (by simp [Value.oneCell']) (by have := HL9.out; unfold maxLen; omega) (by have := HL9.out; omega) (by have := hT3.out.up.le; simp; omega) ?_; intro v9 w2 own9 g9 _ at9; have hT4 := hid ((hT3.out.kept ((Up.refl w1).alloc _)).put9 own9 g9 at9); clear own9))
          go_roundw
          case rel =>
            have hlt1 := lt_of_cell E0.out
            have e2 : ∀ {o u}, wr.cell? ⟨n30, o, none⟩ = some u → w2.cell? ⟨n30, o, none⟩ = some u := fun h =>
              cell_far g9 ((World.cell?_alloc_lt w1 _ _ (Nat.lt_of_lt_of_le hlt1 (by have := g8.size; simp at this; omega))).trans (cell_far g8 ((World.cell?_alloc_lt wr _ _ hlt1).trans h) M8.out)) M9.out
            refine ⟨j + 1, by omega, by go_num, ?_, e2 E0.out, e2 E1.out, ?_, ?_⟩
            · rw [Hin.out f, Hin.out g, ← List.append_assoc, ← List.append_assoc]; exact hT4.out
            · rcases at8 with e | e <;> rw [e]
              · exact M8.out
              · simp; omega
            · rcases at9 with e | e <;> rw [e]
              · exact M9.out
              · have := g8.size
                simp at this ⊢; omega
          case measure => simp [intOf]; omega
        · obtain rfl : j = 2 := by omega
          go_wp2
          go_roundw
          case rel => exact ⟨k + 1, by omega, by go_num, by rw [Hout.out f, Hout.out g]; exact hT2⟩
          case measure => simp [intOf]; omega
    · obtain rfl : k = 2 := by omega
      clear c0 c1 c2 c3
      obtain ⟨g8, p8, hv8, _, hl8⟩ := own_form hT.own8 (by simp [outL])
      obtain ⟨g9, p9, hv9, _, hl9⟩ := own_form hT.own9 (by simp [outL])
      have hr8 : RdI wr (some ⟨g8, 0, none⟩) (outL f lo hi lo' hi' 2) := rdi_own hT.own8 hv8 hl8
      have hr9 : RdI wr (some ⟨g9, 0, none⟩) (outL g lo hi lo' hi' 2) := rdi_own hT.own9 hv9 hl9
      rw [hv8, hv9]
      have Hu := hid hu
      clear hT hv8 hv9 hu
      go_wp2_with (first
                        | (go_at_call 207; refine (slmin_any _ (outL f lo hi lo' hi' 2) _ _ (by simp [outL]) (by simp [outL]) hr8).mono ?_; rintro e w' ⟨rfl, rfl⟩)
                        | (go_at_call 208; refine (slmax_any _ (outL g lo hi lo' hi' 2) _ _ (by simp [outL]) (by simp [outL]) hr9).mono ?_; rintro e w' ⟨rfl, rfl⟩)
                        | ((go_at_call 151; refine (fits_any _ _ _).mono ?_; rintro e w' ⟨(n|s), hx, rfl, hb1⟩) <;> obtain ⟨hc1, hf1⟩ := bcell hb1))
      all_goals
        (refine bodyPost_res rfl ?_; simp only [results, Tryz.results189]; go_simp; refine resPost_ok ?_)
        first
          | refine RetX.mk (.error n) ?_ (by rw [← hx]; rfl) rfl
          | refine RetX.mk (.ok s) ?_ (by rw [← hx]; rfl) rfl
        have hU := Hu.out
        have hle := hU.le
        (repeat (first | (with_reducible exact Up.refl _) | (with_reducible assumption) | (with_reducible refine Up.alloc ?_ _) | (with_reducible refine Up.drew ?_) | ((with_reducible refine Up.set ?_ ?_ _); rotate_left; focus (first | omega | (simp; done) | (simp; omega))) | (with_reducible refine Up.drewN ?_ _) | (with_reducible refine Up.call ?_ (by with_reducible assumption))))
end Go.Proofs.YtmjcnpolnknkkaaGreatDoor

namespace Go.Proofs.YtmjcnpolnknkkaaGreatDoor
open Go.RowKit

theorem mul_bd (x y : Int) (h1 : M x) (h2 : M y) : -1000000000000000000 ≤ x * y ∧ x * y ≤ 1000000000000000000 := by
  obtain ⟨a, b⟩ := h1; obtain ⟨c, d⟩ := h2
  have h : (x * y).natAbs ≤ 1000000000 * 1000000000 := by
    rw [Int.natAbs_mul]; exact Nat.mul_le_mul (by omega) (by omega)
  omega
theorem enProd : ∀ args w, (callFunc 41 args).run Tryz.prog w = .ok (.enter 41 args) w := enters_of Tryz.func41 (by kernel_rfl) rfl
theorem enQuo : ∀ args w, (callFunc 44 args).run Tryz.prog w = .ok (.enter 44 args) w := enters_of Tryz.func44 (by kernel_rfl) rfl

theorem product_any (lo hi lo' hi' : Int) (w : World) (h1 : M lo) (h2 : M hi) (h3 : M lo') (h4 : M hi') :
    Calls Tryz.prog 186 #[.agg #[.int .i64 lo, .int .i64 hi], .agg #[.int .i64 lo', .int .i64 hi']] w (RetX spR (prodF ⟨lo, hi⟩ ⟨lo', hi'⟩) w) := by
  have hof : ∀ x y W, (x = lo ∨ x = hi) → (y = lo' ∨ y = hi') → Calls Tryz.prog 41 #[.int .i64 x, .int .i64 y] W fun e W' => e = .returned (.tuple #[.int .i64 (pdn x y), .int .i64 (pup x y)]) ∧ W = W' := by
    intro x y W hx hy
    have := mul_bd x y (by rcases hx with rfl | rfl <;> assumption) (by rcases hy with rfl | rfl <;> assumption)
    exact uproduct_any x y W (by omega) (by omega)
  have Hof := hid hof; clear hof
  go_enter Tryz.func186, Tryz.ntmps186
  go_wp2_with ((go_at_call 189; refine (corners_any _ enProd pdn pup _ _ _ _ _ Hof.out).mono ?_; rintro e w' ⟨(n|s), hx, rfl, hb⟩) <;> obtain ⟨hc, hf⟩ := bcell hb)
  all_goals
    (refine bodyPost_res rfl ?_; simp only [results, Tryz.results186]; go_simp; refine resPost_ok ?_)
    first
      | refine RetX.mk (.error n) ?_ ?_ rfl
      | refine RetX.mk (.ok s) ?_ ?_ rfl
    · (repeat (first | (with_reducible exact Up.refl _) | (with_reducible assumption) | (with_reducible refine Up.alloc ?_ _) | (with_reducible refine Up.drew ?_) | ((with_reducible refine Up.set ?_ ?_ _); rotate_left; focus (first | omega | (simp; done) | (simp; omega))) | (with_reducible refine Up.drewN ?_ _) | (with_reducible refine Up.call ?_ (by with_reducible assumption))))
    · first | exact hx | rfl
theorem quotient_any (lo hi lo' hi' : Int) (w : World) (h1 : M lo) (h2 : M hi) (h3 : M lo') (h4 : M hi') (h5 : lo' ≤ hi') :
    Calls Tryz.prog 146 #[.agg #[.int .i64 lo, .int .i64 hi], .agg #[.int .i64 lo', .int .i64 hi']] w (RetX spR (quoF ⟨lo, hi⟩ ⟨lo', hi'⟩) w) := by
  cases hz : zeroF ⟨lo', hi'⟩ with
  | true =>
    have hq : quoF ⟨lo, hi⟩ ⟨lo', hi'⟩ = .error 8 := by simp [quoF, hz]
    rw [hq]
    have Hz := hid hz; clear hz hq
    go_enter Tryz.func146, Tryz.ntmps146
    go_wp2_with ((go_at_call 188; refine (zero_any _ _ _).mono ?_; rintro e w' ⟨b, hx, rfl, hb⟩); rw [Hz.out] at hx; subst hx; obtain ⟨hc, hf⟩ := bcell hb)
    all_goals
      (refine bodyPost_res rfl ?_; simp only [results, Tryz.results146]; go_simp; refine resPost_ok ?_)
      refine RetX.mk (Except.error 8 : Except Nat Sp) ?_ rfl rfl
      (repeat (first | (with_reducible exact Up.refl _) | (with_reducible assumption) | (with_reducible refine Up.alloc ?_ _) | (with_reducible refine Up.drew ?_) | ((with_reducible refine Up.set ?_ ?_ _); rotate_left; focus (first | omega | (simp; done) | (simp; omega))) | (with_reducible refine Up.drewN ?_ _) | (with_reducible refine Up.call ?_ (by with_reducible assumption))))
  | false =>
    have hq : quoF ⟨lo, hi⟩ ⟨lo', hi'⟩ = cornersF qdn qup ⟨lo, hi⟩ ⟨lo', hi'⟩ := by simp [quoF, hz]
    rw [hq]
    have hof : ∀ x y W, (x = lo ∨ x = hi) → (y = lo' ∨ y = hi') → Calls Tryz.prog 44 #[.int .i64 x, .int .i64 y] W fun e W' => e = .returned (.tuple #[.int .i64 (qdn x y), .int .i64 (qup x y)]) ∧ W = W' := by
      intro x y W hx hy
      simp [zeroF] at hz
      obtain ⟨_, _⟩ := h1; obtain ⟨_, _⟩ := h2; obtain ⟨_, _⟩ := h3; obtain ⟨_, _⟩ := h4
      exact uquotient_any x y W (by rcases hx with rfl | rfl <;> omega) (by rcases hx with rfl | rfl <;> omega) (by rcases hy with rfl | rfl <;> omega) (by rcases hy with rfl | rfl <;> omega) (by rcases hy with rfl | rfl <;> omega)
    have Hof := hid hof; have Hz := hid hz; clear hof hz hq
    go_enter Tryz.func146, Tryz.ntmps146
    go_wp2_with (first
                        | ((go_at_call 188; refine (zero_any _ _ _).mono ?_; rintro e w' ⟨b, hx, rfl, hb⟩); rw [Hz.out] at hx; subst hx; obtain ⟨hc, hf⟩ := bcell hb; obtain ⟨_, _, _⟩ := lt3 (n := w.heap.size) hb (by simp))
                        | ((go_at_call 189; refine (corners_any _ enQuo qdn qup _ _ _ _ _ Hof.out).mono ?_; rintro e w2 ⟨(n|s), hx, rfl, hb2⟩) <;> obtain ⟨hc2, hf2⟩ := bcell hb2))
    all_goals
      (refine bodyPost_res rfl ?_; simp only [results, Tryz.results146]; go_simp; refine resPost_ok ?_)
      first
        | refine RetX.mk (.error n) ?_ ?_ rfl
        | refine RetX.mk (.ok s) ?_ ?_ rfl
      · (repeat (first | (with_reducible exact Up.refl _) | (with_reducible assumption) | (with_reducible refine Up.alloc ?_ _) | (with_reducible refine Up.drew ?_) | ((with_reducible refine Up.set ?_ ?_ _); rotate_left; focus (first | omega | (simp; done) | (simp; omega))) | (with_reducible refine Up.drewN ?_ _) | (with_reducible refine Up.call ?_ (by with_reducible assumption))))
      · first | exact hx | rfl
end Go.Proofs.YtmjcnpolnknkkaaGreatDoor

namespace Go.Proofs.YtmjcnpolnknkkaaGreatDoor
open Go.RowKit

set_option maxRecDepth 100000 in
set_option maxHeartbeats 800000 in
theorem two_any (K : Nat) (hen : ∀ args w, (callFunc K args).run Tryz.prog w = .ok (.enter K args) w) (F : Sp → Sp → Except Nat Sp) (lo hi lo' hi' : Int) (w : World)
    (hdo : Rt ⟨lo, hi⟩ → Rt ⟨lo', hi'⟩ → ∀ W, Calls Tryz.prog K #[.agg #[.int .i64 lo, .int .i64 hi], .agg #[.int .i64 lo', .int .i64 hi']] W (RetX spR (F ⟨lo, hi⟩ ⟨lo', hi'⟩) W)) :
    Calls Tryz.prog 201 #[.agg #[.int .i64 lo, .int .i64 hi], .agg #[.int .i64 lo', .int .i64 hi'], .func (.func K) #[] #[]] w (RetX spR (twoF F ⟨lo, hi⟩ ⟨lo', hi'⟩) w) := by
  have Hdo := hid hdo; clear hdo
  cases ha : checkF ⟨lo, hi⟩ with
  | some n =>
    have hr : twoF F ⟨lo, hi⟩ ⟨lo', hi'⟩ = .error n := by simp [twoF, ha]
    rw [hr]
    have Ha := hid ha; clear ha hr Hdo
    go_enter Tryz.func201, Tryz.ntmps201
    go_wp2
    refine wp_loop_rounds 1 ?_
    rw [rounds_succ]
    go_wp2_with ((go_at_call 106; refine (check_any _ _ _).mono ?_; rintro e w' ⟨x, hx, rfl, hb⟩); rw [Ha.out] at hx; subst hx; obtain ⟨hc, hf⟩ := bcell hb; obtain ⟨_, _, _, _, _⟩ : w.heap.size < w'.heap.size ∧ w.heap.size + 1 < w'.heap.size ∧ w.heap.size + 1 + 1 < w'.heap.size ∧ w.heap.size + 1 + 1 + 1 < w'.heap.size ∧ w.heap.size + 1 + 1 + 1 + 1 < w'.heap.size := (by have hle := Up.le hb; first | omega | (simp at hle; omega) | (simp at hle; done)))
    (refine bodyPost_res rfl ?_; simp only [results, Tryz.results201]; go_simp; refine resPost_ok ?_)
    refine RetX.mk (Except.error n : Except Nat Sp) ?_ rfl rfl
    (repeat (first | (with_reducible exact Up.refl _) | (with_reducible assumption) | (with_reducible refine Up.alloc ?_ _) | (with_reducible refine Up.drew ?_) | ((with_reducible refine Up.set ?_ ?_ _); rotate_left; focus (first | omega | (simp; done) | (simp; omega))) | (with_reducible refine Up.drewN ?_ _) | (with_reducible refine Up.call ?_ (by with_reducible assumption))))
  | none =>
    cases hb0 : checkF ⟨lo', hi'⟩ with
    | some n =>
      have hr : twoF F ⟨lo, hi⟩ ⟨lo', hi'⟩ = .error n := by simp [twoF, ha, hb0]
      rw [hr]
      have Ha := hid ha; have Hb := hid hb0; clear ha hb0 hr Hdo
      go_enter Tryz.func201, Tryz.ntmps201
      go_wp2
      refine wp_loop_rounds 2 ?_
      rw [rounds_succ]
      go_wp2_with ((go_at_call 106; refine (check_any lo hi _).mono ?_; rintro e w' ⟨x, hx, rfl, hb⟩); rw [Ha.out] at hx; subst hx; obtain ⟨hc, hf⟩ := bcell hb; obtain ⟨_, _, _, _, _⟩ : w.heap.size < w'.heap.size ∧ w.heap.size + 1 < w'.heap.size ∧ w.heap.size + 1 + 1 < w'.heap.size ∧ w.heap.size + 1 + 1 + 1 < w'.heap.size ∧ w.heap.size + 1 + 1 + 1 + 1 < w'.heap.size := (by have hle := Up.le hb; first | omega | (simp at hle; omega) | (simp at hle; done)))
      rw [rounds_succ]
      go_wp2_with ((go_at_call 106; refine (check_any lo' hi' _).mono ?_; rintro e w2 ⟨x, hx, rfl, hb2⟩); rw [Hb.out] at hx; subst hx; obtain ⟨hc2, hf2⟩ := bcell hb2; obtain ⟨_, _, _, _⟩ : w.heap.size < w2.heap.size ∧ w.heap.size + 1 < w2.heap.size ∧ w.heap.size + 1 + 1 < w2.heap.size ∧ w.heap.size + 1 + 1 + 1 < w2.heap.size := (by have hle := Up.le hb2; first | omega | (simp at hle; omega) | (simp at hle; done)))
      (refine bodyPost_res rfl ?_; simp only [results, Tryz.results201]; go_simp; refine resPost_ok ?_)
      refine RetX.mk (Except.error n : Except Nat Sp) ?_ rfl rfl
      (repeat (first | (with_reducible exact Up.refl _) | (with_reducible assumption) | (with_reducible refine Up.alloc ?_ _) | (with_reducible refine Up.drew ?_) | ((with_reducible refine Up.set ?_ ?_ _); rotate_left; focus (first | omega | (simp; done) | (simp; omega))) | (with_reducible refine Up.drewN ?_ _) | (with_reducible refine Up.call ?_ (by with_reducible assumption))))
    | none =>
      have hr : twoF F ⟨lo, hi⟩ ⟨lo', hi'⟩ = F ⟨lo, hi⟩ ⟨lo', hi'⟩ := by simp [twoF, ha, hb0]
      rw [hr]
      have Hd := hid (Hdo.out (checkF_none.1 ha) (checkF_none.1 hb0))
      have Ha := hid ha; have Hb := hid hb0; clear ha hb0 hr Hdo
      go_enter Tryz.func201, Tryz.ntmps201
      go_wp2
      refine wp_loop_rounds 3 ?_
      rw [rounds_succ]
      go_wp2_with ((go_at_call 106; refine (check_any lo hi _).mono ?_; rintro e w' ⟨x, hx, rfl, hb⟩); rw [Ha.out] at hx; subst hx; obtain ⟨hc, hf⟩ := bcell hb; obtain ⟨_, _, _, _, _⟩ : w.heap.size < w'.heap.size ∧ w.heap.size + 1 < w'.heap.size ∧ w.heap.size + 1 + 1 < w'.heap.size ∧ w.heap.size + 1 + 1 + 1 < w'.heap.size ∧ w.heap.size + 1 + 1 + 1 + 1 < w'.heap.size := (by have hle := Up.le hb; first | omega | (simp at hle; omega) | (simp at hle; done)))
      rw [rounds_succ]
      go_wp2_with ((go_at_call 106; refine (check_any lo' hi' _).mono ?_; rintro e w2 ⟨x, hx, rfl, hb2⟩); rw [Hb.out] at hx; subst hx; obtain ⟨hc2, hf2⟩ := bcell hb2; obtain ⟨_, _, _, _⟩ : w.heap.size < w2.heap.size ∧ w.heap.size + 1 < w2.heap.size ∧ w.heap.size + 1 + 1 < w2.heap.size ∧ w.heap.size + 1 + 1 + 1 < w2.heap.size := (by have hle := Up.le hb2; first | omega | (simp at hle; omega) | (simp at hle; done)))
      rw [rounds_succ]
      go_wp2_with (refine (Hd.out _).mono ?_; rintro e w3 ⟨(n|s), hx, rfl, hb3⟩ <;> obtain ⟨hc3, hf3⟩ := bcell hb3)
      all_goals
        (refine bodyPost_res rfl ?_; simp only [results, Tryz.results201]; go_simp; refine resPost_ok ?_)
        first
          | refine RetX.mk (.error n) ?_ ?_ rfl
          | refine RetX.mk (.ok s) ?_ ?_ rfl
        · (repeat (first | (with_reducible exact Up.refl _) | (with_reducible assumption) | (with_reducible refine Up.alloc ?_ _) | (with_reducible refine Up.drew ?_) | ((with_reducible refine Up.set ?_ ?_ _); rotate_left; focus (first | omega | (simp; done) | (simp; omega))) | (with_reducible refine Up.drewN ?_ _) | (with_reducible refine Up.call ?_ (by with_reducible assumption))))
        · first | exact hx | rfl
theorem sadd_any (lo hi lo' hi' : Int) (w : World) :
    Calls Tryz.prog 169 #[.agg #[.int .i64 lo, .int .i64 hi], .agg #[.int .i64 lo', .int .i64 hi']] w (RetX spR (twoF sumF ⟨lo, hi⟩ ⟨lo', hi'⟩) w) := by
  have Hd := hid (two_any 105 (enters_of Tryz.func105 (by kernel_rfl) rfl) sumF lo hi lo' hi')
  have Hs := hid (fun (h1 : Rt ⟨lo, hi⟩) (h2 : Rt ⟨lo', hi'⟩) W => sum_any lo hi lo' hi' W h1.1 h1.2.1 h2.1 h2.2.1)
  go_enter Tryz.func169, Tryz.ntmps169
  go_wp2_with ((go_at_call 201; refine (Hd.out _ Hs.out).mono ?_; rintro e w' ⟨(n|s), hx, rfl, hb⟩) <;> obtain ⟨hc, hf⟩ := bcell hb)
  all_goals
    (refine bodyPost_res rfl ?_; simp only [results, Tryz.results169]; go_simp; refine resPost_ok ?_)
    first
      | refine RetX.mk (.error n) ?_ ?_ rfl
      | refine RetX.mk (.ok s) ?_ ?_ rfl
    · (repeat (first | (with_reducible exact Up.refl _) | (with_reducible assumption) | (with_reducible refine Up.alloc ?_ _) | (with_reducible refine Up.drew ?_) | ((with_reducible refine Up.set ?_ ?_ _); rotate_left; focus (first | omega | (simp; done) | (simp; omega))) | (with_reducible refine Up.drewN ?_ _) | (with_reducible refine Up.call ?_ (by with_reducible assumption))))
    · first | exact hx | rfl
theorem sless_any (lo hi lo' hi' : Int) (w : World) :
    Calls Tryz.prog 170 #[.agg #[.int .i64 lo, .int .i64 hi], .agg #[.int .i64 lo', .int .i64 hi']] w (RetX spR (twoF restF ⟨lo, hi⟩ ⟨lo', hi'⟩) w) := by
  have Hd := hid (two_any 147 (enters_of Tryz.func147 (by kernel_rfl) rfl) restF lo hi lo' hi')
  have Hs := hid (fun (h1 : Rt ⟨lo, hi⟩) (h2 : Rt ⟨lo', hi'⟩) W => rest_any lo hi lo' hi' W h1.1 h1.2.1 h2.1 h2.2.1)
  go_enter Tryz.func170, Tryz.ntmps170
  go_wp2_with ((go_at_call 201; refine (Hd.out _ Hs.out).mono ?_; rintro e w' ⟨(n|s), hx, rfl, hb⟩) <;> obtain ⟨hc, hf⟩ := bcell hb)
  all_goals
    (refine bodyPost_res rfl ?_; simp only [results, Tryz.results170]; go_simp; refine resPost_ok ?_)
    first
      | refine RetX.mk (.error n) ?_ ?_ rfl
      | refine RetX.mk (.ok s) ?_ ?_ rfl
    · (repeat (first | (with_reducible exact Up.refl _) | (with_reducible assumption) | (with_reducible refine Up.alloc ?_ _) | (with_reducible refine Up.drew ?_) | ((with_reducible refine Up.set ?_ ?_ _); rotate_left; focus (first | omega | (simp; done) | (simp; omega))) | (with_reducible refine Up.drewN ?_ _) | (with_reducible refine Up.call ?_ (by with_reducible assumption))))
    · first | exact hx | rfl
theorem stimes_any (lo hi lo' hi' : Int) (w : World) :
    Calls Tryz.prog 171 #[.agg #[.int .i64 lo, .int .i64 hi], .agg #[.int .i64 lo', .int .i64 hi']] w (RetX spR (twoF prodF ⟨lo, hi⟩ ⟨lo', hi'⟩) w) := by
  have Hd := hid (two_any 186 (enters_of Tryz.func186 (by kernel_rfl) rfl) prodF lo hi lo' hi')
  have Hs := hid (fun (h1 : Rt ⟨lo, hi⟩) (h2 : Rt ⟨lo', hi'⟩) W => product_any lo hi lo' hi' W h1.1 h1.2.1 h2.1 h2.2.1)
  go_enter Tryz.func171, Tryz.ntmps171
  go_wp2_with ((go_at_call 201; refine (Hd.out _ Hs.out).mono ?_; rintro e w' ⟨(n|s), hx, rfl, hb⟩) <;> obtain ⟨hc, hf⟩ := bcell hb)
  all_goals
    (refine bodyPost_res rfl ?_; simp only [results, Tryz.results171]; go_simp; refine resPost_ok ?_)
    first
      | refine RetX.mk (.error n) ?_ ?_ rfl
      | refine RetX.mk (.ok s) ?_ ?_ rfl
    · (repeat (first | (with_reducible exact Up.refl _) | (with_reducible assumption) | (with_reducible refine Up.alloc ?_ _) | (with_reducible refine Up.drew ?_) | ((with_reducible refine Up.set ?_ ?_ _); rotate_left; focus (first | omega | (simp; done) | (simp; omega))) | (with_reducible refine Up.drewN ?_ _) | (with_reducible refine Up.call ?_ (by with_reducible assumption))))
    · first | exact hx | rfl
theorem sby_any (lo hi lo' hi' : Int) (w : World) :
    Calls Tryz.prog 172 #[.agg #[.int .i64 lo, .int .i64 hi], .agg #[.int .i64 lo', .int .i64 hi']] w (RetX spR (twoF quoF ⟨lo, hi⟩ ⟨lo', hi'⟩) w) := by
  have Hd := hid (two_any 146 (enters_of Tryz.func146 (by kernel_rfl) rfl) quoF lo hi lo' hi')
  have Hs := hid (fun (h1 : Rt ⟨lo, hi⟩) (h2 : Rt ⟨lo', hi'⟩) W => quotient_any lo hi lo' hi' W h1.1 h1.2.1 h2.1 h2.2.1 h2.2.2)
  go_enter Tryz.func172, Tryz.ntmps172
  go_wp2_with ((go_at_call 201; refine (Hd.out _ Hs.out).mono ?_; rintro e w' ⟨(n|s), hx, rfl, hb⟩) <;> obtain ⟨hc, hf⟩ := bcell hb)
  all_goals
    (refine bodyPost_res rfl ?_; simp only [results, Tryz.results172]; go_simp; refine resPost_ok ?_)
    first
      | refine RetX.mk (.error n) ?_ ?_ rfl
      | refine RetX.mk (.ok s) ?_ ?_ rfl
    · (repeat (first | (with_reducible exact Up.refl _) | (with_reducible assumption) | (with_reducible refine Up.alloc ?_ _) | (with_reducible refine Up.drew ?_) | ((with_reducible refine Up.set ?_ ?_ _); rotate_left; focus (first | omega | (simp; done) | (simp; omega))) | (with_reducible refine Up.drewN ?_ _) | (with_reducible refine Up.call ?_ (by with_reducible assumption))))
    · first | exact hx | rfl
theorem smeet_any (lo hi lo' hi' : Int) (w : World) :
    Calls Tryz.prog 173 #[.agg #[.int .i64 lo, .int .i64 hi], .agg #[.int .i64 lo', .int .i64 hi']] w (RetX spR (twoF comF ⟨lo, hi⟩ ⟨lo', hi'⟩) w) := by
  have Hd := hid (two_any 148 (enters_of Tryz.func148 (by kernel_rfl) rfl) comF lo hi lo' hi')
  have Hs := hid (fun (h1 : Rt ⟨lo, hi⟩) (h2 : Rt ⟨lo', hi'⟩) W => common_any lo hi lo' hi' W)
  go_enter Tryz.func173, Tryz.ntmps173
  go_wp2_with ((go_at_call 201; refine (Hd.out _ Hs.out).mono ?_; rintro e w' ⟨(n|s), hx, rfl, hb⟩) <;> obtain ⟨hc, hf⟩ := bcell hb)
  all_goals
    (refine bodyPost_res rfl ?_; simp only [results, Tryz.results173]; go_simp; refine resPost_ok ?_)
    first
      | refine RetX.mk (.error n) ?_ ?_ rfl
      | refine RetX.mk (.ok s) ?_ ?_ rfl
    · (repeat (first | (with_reducible exact Up.refl _) | (with_reducible assumption) | (with_reducible refine Up.alloc ?_ _) | (with_reducible refine Up.drew ?_) | ((with_reducible refine Up.set ?_ ?_ _); rotate_left; focus (first | omega | (simp; done) | (simp; omega))) | (with_reducible refine Up.drewN ?_ _) | (with_reducible refine Up.call ?_ (by with_reducible assumption))))
    · first | exact hx | rfl
theorem hull1_any (lo hi lo' hi' : Int) (w : World) :
    Calls Tryz.prog 202 #[.agg #[.int .i64 lo, .int .i64 hi], .agg #[.int .i64 lo', .int .i64 hi']] w (RetX spR (.ok (bothF ⟨lo, hi⟩ ⟨lo', hi'⟩)) w) := by
  go_enter Tryz.func202, Tryz.ntmps202
  go_wp2_with ((go_at_call 113; refine (both_span _ _ _ _ _).mono ?_; rintro e w' ⟨s, hx, rfl, hb⟩); obtain ⟨hc, hf⟩ := bcell hb)
  all_goals
    (refine bodyPost_res rfl ?_; simp only [results, Tryz.results202]; go_simp; refine resPost_ok ?_)
    refine RetX.mk (.ok s) ?_ ?_ rfl
    · (repeat (first | (with_reducible exact Up.refl _) | (with_reducible assumption) | (with_reducible refine Up.alloc ?_ _) | (with_reducible refine Up.drew ?_) | ((with_reducible refine Up.set ?_ ?_ _); rotate_left; focus (first | omega | (simp; done) | (simp; omega))) | (with_reducible refine Up.drewN ?_ _) | (with_reducible refine Up.call ?_ (by with_reducible assumption))))
    · first | rw [hx] | rfl
theorem shull_any (lo hi lo' hi' : Int) (w : World) :
    Calls Tryz.prog 174 #[.agg #[.int .i64 lo, .int .i64 hi], .agg #[.int .i64 lo', .int .i64 hi']] w (RetX spR (twoF (fun a b => .ok (bothF a b)) ⟨lo, hi⟩ ⟨lo', hi'⟩) w) := by
  have Hd := hid (two_any 202 (enters_of Tryz.func202 (by kernel_rfl) rfl) (fun a b => .ok (bothF a b)) lo hi lo' hi')
  have Hs := hid (fun (h1 : Rt ⟨lo, hi⟩) (h2 : Rt ⟨lo', hi'⟩) W => hull1_any lo hi lo' hi' W)
  go_enter Tryz.func174, Tryz.ntmps174
  go_wp2_with ((go_at_call 201; refine (Hd.out _ Hs.out).mono ?_; rintro e w' ⟨(n|s), hx, rfl, hb⟩) <;> obtain ⟨hc, hf⟩ := bcell hb)
  all_goals
    (refine bodyPost_res rfl ?_; simp only [results, Tryz.results174]; go_simp; refine resPost_ok ?_)
    first
      | refine RetX.mk (.error n) ?_ ?_ rfl
      | refine RetX.mk (.ok s) ?_ ?_ rfl
    · (repeat (first | (with_reducible exact Up.refl _) | (with_reducible assumption) | (with_reducible refine Up.alloc ?_ _) | (with_reducible refine Up.drew ?_) | ((with_reducible refine Up.set ?_ ?_ _); rotate_left; focus (first | omega | (simp; done) | (simp; omega))) | (with_reducible refine Up.drewN ?_ _) | (with_reducible refine Up.call ?_ (by with_reducible assumption))))
    · first | exact hx | rfl
end Go.Proofs.YtmjcnpolnknkkaaGreatDoor

namespace Go.Proofs.YtmjcnpolnknkkaaGreatDoor
open Go.RowKit

theorem umul_bd {x y : Int} (h1 : M x) (h2 : M y) : -1000000000000000000 ≤ x * y ∧ x * y ≤ 1000000000000000000 := by
  obtain ⟨a, b⟩ := h1; obtain ⟨c, d⟩ := h2
  have h : (x * y).natAbs ≤ 1000000000 * 1000000000 := by
    rw [Int.natAbs_mul]; exact Nat.mul_le_mul (by omega) (by omega)
  omega
end Go.Proofs.YtmjcnpolnknkkaaGreatDoor
