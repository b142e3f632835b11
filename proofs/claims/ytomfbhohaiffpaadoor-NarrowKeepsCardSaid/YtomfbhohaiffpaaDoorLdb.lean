/- SpanHas: what two spans come to has what their numbers come to. -/
import Derived.Test.YtomfbhohaiffpaaDoorHasl
import Derived.Test.YtomfbhohaiffpaaDoorKeeps
import Derived.Test.YtomfbhohaiffpaaDoorSpan
import Derived.Test.YtomfbhohaiffpaaDoorBase
import Derived.Test.YtomfbhohaiffpaaDoorNest
import Derived.Test.YtomfbhohaiffpaaDoorRfs
import Derived.Test.YtomfbhohaiffpaaDoorDoor
import Derived.Deep.DeepCutAuto

set_option linter.unusedVariables false
set_option linter.unusedSimpArgs false
namespace Go.Proofs.YtomfbhohaiffpaaDoor
open Go.ChangeShapes Go.WideShapes Go.ChangeAt Go.RowKit Go.Joins Go.Deep

theorem fact_stimes : twoF prodF ⟨-2000, 3000⟩ ⟨-1000, 4000⟩ = .ok ⟨-8000, 12000⟩ := by rfl
theorem two_in {f : Sp → Sp → Except Nat Sp} {a b : Sp} (ha : Rt a) (hb : Rt b) : twoF f a b = f a b := by
  unfold twoF
  rw [checkF_none.2 ha]
  dsimp only
  rw [checkF_none.2 hb]
theorem mulL_bd {x y : Int} (h1 : M x) (h2 : M y) : -1000000000000000000 ≤ x * y ∧ x * y ≤ 1000000000000000000 := mul_bd x y h1 h2
theorem in1000 {s : Sp} {n : Int} (h : In s n 1000) : s.lo * 1000 ≤ n ∧ n ≤ s.hi * 1000 := h
theorem quo_ends {a b s : Sp} {x y : Int} (h : quoF a b = .ok s) (ha : Has1 a x) (hb : Has1 b y) : (0 < y ∧ s.lo * y ≤ 1000 * x ∧ 1000 * x ≤ s.hi * y) ∨ (y < 0 ∧ 1000 * x ≤ s.lo * y ∧ s.hi * y ≤ 1000 * x) := by
  unfold quoF at h
  split at h
  · cases h
  · rename_i hz
    obtain ⟨rfl, -⟩ := fits_ok h
    obtain ⟨a1, a2⟩ := ha
    obtain ⟨b1, b2⟩ := hb
    have hz' : 0 < b.lo ∨ b.hi < 0 := by simp [zeroF] at hz; omega
    have m1 := min4_le (qdn a.lo b.lo) (qdn a.lo b.hi) (qdn a.hi b.lo) (qdn a.hi b.hi)
    have m2 := le_max4 (qup a.lo b.lo) (qup a.lo b.hi) (qup a.hi b.lo) (qup a.hi b.hi)
    generalize hL : min4 (qdn a.lo b.lo) (qdn a.lo b.hi) (qdn a.hi b.lo) (qdn a.hi b.hi) = L at *
    generalize hH : max4 (qup a.lo b.lo) (qup a.lo b.hi) (qup a.hi b.lo) (qup a.hi b.hi) = U at *
    dsimp only
    clear hL hH h hz
    rcases hz' with hp | hp
    · refine .inl ⟨by omega, ?_, ?_⟩
      · have q1 := (qdn_le (x := a.lo) (y := b.lo) (by omega)).1 hp
        have q2 := (qdn_le (x := a.lo) (y := b.hi) (by omega)).1 (by omega)
        have r1 : L * b.lo ≤ 1000 * a.lo := Int.le_trans (Int.mul_le_mul_of_nonneg_right m1.1 (by omega)) q1.1
        have r2 : L * b.hi ≤ 1000 * a.lo := Int.le_trans (Int.mul_le_mul_of_nonneg_right m1.2.1 (by omega)) q2.1
        rcases mul_btw L b1 b2 with k | k <;> omega
      · have q1 := (qdn_le (x := a.hi) (y := b.lo) (by omega)).1 hp
        have q2 := (qdn_le (x := a.hi) (y := b.hi) (by omega)).1 (by omega)
        have r1 : 1000 * a.hi ≤ U * b.lo := Int.le_trans q1.2 (Int.mul_le_mul_of_nonneg_right m2.2.2.1 (by omega))
        have r2 : 1000 * a.hi ≤ U * b.hi := Int.le_trans q2.2 (Int.mul_le_mul_of_nonneg_right m2.2.2.2 (by omega))
        rcases mul_btw U b1 b2 with k | k <;> omega
    · refine .inr ⟨by omega, ?_, ?_⟩
      · have q1 := (qdn_le (x := a.hi) (y := b.lo) (by omega)).2 (by omega)
        have q2 := (qdn_le (x := a.hi) (y := b.hi) (by omega)).2 hp
        have r1 : 1000 * a.hi ≤ L * b.lo := Int.le_trans q1.1 (Int.mul_le_mul_of_nonpos_right m1.2.2.1 (by omega))
        have r2 : 1000 * a.hi ≤ L * b.hi := Int.le_trans q2.1 (Int.mul_le_mul_of_nonpos_right m1.2.2.2 (by omega))
        rcases mul_btw L b1 b2 with k | k <;> omega
      · have q1 := (qdn_le (x := a.lo) (y := b.lo) (by omega)).2 (by omega)
        have q2 := (qdn_le (x := a.lo) (y := b.hi) (by omega)).2 hp
        have r1 : U * b.lo ≤ 1000 * a.lo := Int.le_trans (Int.mul_le_mul_of_nonpos_right m2.1 (by omega)) q1.2
        have r2 : U * b.hi ≤ 1000 * a.lo := Int.le_trans (Int.mul_le_mul_of_nonpos_right m2.2.1 (by omega)) q2.2
        rcases mul_btw U b1 b2 with k | k <;> omega
def okP (r : Except Nat Sp) (P : Sp → Prop) : Prop := match r with
  | .ok s => P s
  | .error _ => True
theorem okP_of {r : Except Nat Sp} {P : Sp → Prop} (h : ∀ s, r = .ok s → P s) : okP r P := by
  cases r with
  | error e => trivial
  | ok s => exact h s rfl
theorem btwB (lo x hi : Int) : ∃ b : Bool, ((decide (lo ≤ x) = false ∧ b = false) ∨ (decide (lo ≤ x) = true ∧ decide (x ≤ hi) = false ∧ b = false) ∨ (decide (lo ≤ x) = true ∧ decide (x ≤ hi) = true ∧ b = true)) ∧ (b = true ↔ lo ≤ x ∧ x ≤ hi) := by
  by_cases h1 : lo ≤ x <;> by_cases h2 : x ≤ hi
  · exact ⟨true, .inr (.inr ⟨decide_eq_true h1, decide_eq_true h2, rfl⟩), by simp [h1, h2]⟩
  · exact ⟨false, .inr (.inl ⟨decide_eq_true h1, decide_eq_false h2, rfl⟩), by simp [h2]⟩
  · exact ⟨false, .inl ⟨decide_eq_false h1, rfl⟩, by simp [h1]⟩
  · exact ⟨false, .inl ⟨decide_eq_false h1, rfl⟩, by simp [h1]⟩
/-- Both arguments' own cells. -/
def SH (w : World) (lo hi lo' hi' : Int) (wx : World) : Prop :=
  Up w wx ∧ Cf wx w.heap.size 0 (.int .i64 lo) ∧ Cf wx w.heap.size 1 (.int .i64 hi) ∧ Cf wx (w.heap.size + 1) 0 (.int .i64 lo') ∧ Cf wx (w.heap.size + 1) 1 (.int .i64 hi')
theorem SH.up {w wx wy : World} {lo hi lo' hi' : Int} (h : SH w lo hi lo' hi' wx) (hu : Up wx wy) : SH w lo hi lo' hi' wy :=
  ⟨h.1.call hu, Cf.up h.2.1 hu, Cf.up h.2.2.1 hu, Cf.up h.2.2.2.1 hu, Cf.up h.2.2.2.2 hu⟩


end Go.Proofs.YtomfbhohaiffpaaDoor
