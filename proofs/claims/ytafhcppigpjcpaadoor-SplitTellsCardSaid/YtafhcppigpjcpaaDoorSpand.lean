/- The walks of span's Product, Quotient and two, and of what is made of any two. -/
import Derived.Test.YtafhcppigpjcpaaDoorCorn
set_option linter.unusedVariables false
set_option linter.unusedSimpArgs false
namespace Go.Proofs.YtafhcppigpjcpaaDoor
open Go.RowKit

theorem mul_bd (x y : Int) (h1 : M x) (h2 : M y) : -1000000000000000000 ≤ x * y ∧ x * y ≤ 1000000000000000000 := by
  obtain ⟨a, b⟩ := h1; obtain ⟨c, d⟩ := h2
  have h : (x * y).natAbs ≤ 1000000000 * 1000000000 := by
    rw [Int.natAbs_mul]; exact Nat.mul_le_mul (by omega) (by omega)
  omega
theorem enProd : ∀ args w, (callFunc 137 args).run Tryd.prog w = .ok (.enter 137 args) w := enters_of Tryd.func137 (by kernel_rfl) rfl
theorem enQuo : ∀ args w, (callFunc 138 args).run Tryd.prog w = .ok (.enter 138 args) w := enters_of Tryd.func138 (by kernel_rfl) rfl

theorem product_any (lo hi lo' hi' : Int) (w : World) (h1 : M lo) (h2 : M hi) (h3 : M lo') (h4 : M hi') :
    Calls Tryd.prog 92 #[.agg #[.int .i64 lo, .int .i64 hi], .agg #[.int .i64 lo', .int .i64 hi']] w (RetX spR (prodF ⟨lo, hi⟩ ⟨lo', hi'⟩) w) := by
  have hof : ∀ x y W, (x = lo ∨ x = hi) → (y = lo' ∨ y = hi') → Calls Tryd.prog 137 #[.int .i64 x, .int .i64 y] W fun e W' => e = .returned (.tuple #[.int .i64 (pdn x y), .int .i64 (pup x y)]) ∧ W = W' := by
    intro x y W hx hy
    have := mul_bd x y (by rcases hx with rfl | rfl <;> assumption) (by rcases hy with rfl | rfl <;> assumption)
    exact uproduct_any x y W (by omega) (by omega)
  have Hof := hid hof; clear hof
  go_enter Tryd.func92, Tryd.ntmps92
  go_wp2_with ((go_at_call 136; refine (corners_any _ enProd pdn pup _ _ _ _ _ Hof.out).mono ?_; rintro e w' ⟨(n|s), hx, rfl, hb⟩) <;> obtain ⟨hc, hf⟩ := bcell hb)
  all_goals
    (refine bodyPost_res rfl ?_; simp only [results, Tryd.results92]; go_simp; refine resPost_ok ?_)
    first
      | refine RetX.mk (.error n) ?_ ?_ rfl
      | refine RetX.mk (.ok s) ?_ ?_ rfl
    · (repeat (first | (with_reducible exact Up.refl _) | (with_reducible assumption) | (with_reducible refine Up.alloc ?_ _) | (with_reducible refine Up.drew ?_) | ((with_reducible refine Up.set ?_ ?_ _); rotate_left; focus (first | omega | (simp; done) | (simp; omega))) | (with_reducible refine Up.drewN ?_ _) | (with_reducible refine Up.call ?_ (by with_reducible assumption))))
    · first | exact hx | rfl
theorem quotient_any (lo hi lo' hi' : Int) (w : World) (h1 : M lo) (h2 : M hi) (h3 : M lo') (h4 : M hi') (h5 : lo' ≤ hi') :
    Calls Tryd.prog 93 #[.agg #[.int .i64 lo, .int .i64 hi], .agg #[.int .i64 lo', .int .i64 hi']] w (RetX spR (quoF ⟨lo, hi⟩ ⟨lo', hi'⟩) w) := by
  cases hz : zeroF ⟨lo', hi'⟩ with
  | true =>
    have hq : quoF ⟨lo, hi⟩ ⟨lo', hi'⟩ = .error 8 := by simp [quoF, hz]
    rw [hq]
    have Hz := hid hz; clear hz hq
    go_enter Tryd.func93, Tryd.ntmps93
    go_wp2_with ((go_at_call 130; refine (zero_any _ _ _).mono ?_; rintro e w' ⟨b, hx, rfl, hb⟩); rw [Hz.out] at hx; subst hx; obtain ⟨hc, hf⟩ := bcell hb)
    all_goals
      (refine bodyPost_res rfl ?_; simp only [results, Tryd.results93]; go_simp; refine resPost_ok ?_)
      refine RetX.mk (Except.error 8 : Except Nat Sp) ?_ rfl rfl
      (repeat (first | (with_reducible exact Up.refl _) | (with_reducible assumption) | (with_reducible refine Up.alloc ?_ _) | (with_reducible refine Up.drew ?_) | ((with_reducible refine Up.set ?_ ?_ _); rotate_left; focus (first | omega | (simp; done) | (simp; omega))) | (with_reducible refine Up.drewN ?_ _) | (with_reducible refine Up.call ?_ (by with_reducible assumption))))
  | false =>
    have hq : quoF ⟨lo, hi⟩ ⟨lo', hi'⟩ = cornersF qdn qup ⟨lo, hi⟩ ⟨lo', hi'⟩ := by simp [quoF, hz]
    rw [hq]
    have hof : ∀ x y W, (x = lo ∨ x = hi) → (y = lo' ∨ y = hi') → Calls Tryd.prog 138 #[.int .i64 x, .int .i64 y] W fun e W' => e = .returned (.tuple #[.int .i64 (qdn x y), .int .i64 (qup x y)]) ∧ W = W' := by
      intro x y W hx hy
      simp [zeroF] at hz
      obtain ⟨_, _⟩ := h1; obtain ⟨_, _⟩ := h2; obtain ⟨_, _⟩ := h3; obtain ⟨_, _⟩ := h4
      exact uquotient_any x y W (by rcases hx with rfl | rfl <;> omega) (by rcases hx with rfl | rfl <;> omega) (by rcases hy with rfl | rfl <;> omega) (by rcases hy with rfl | rfl <;> omega) (by rcases hy with rfl | rfl <;> omega)
    have Hof := hid hof; have Hz := hid hz; clear hof hz hq
    go_enter Tryd.func93, Tryd.ntmps93
    go_wp2_with (first
                        | ((go_at_call 130; refine (zero_any _ _ _).mono ?_; rintro e w' ⟨b, hx, rfl, hb⟩); rw [Hz.out] at hx; subst hx; obtain ⟨hc, hf⟩ := bcell hb; obtain ⟨_, _, _⟩ := lt3 (n := w.heap.size) hb (by simp))
                        | ((go_at_call 136; refine (corners_any _ enQuo qdn qup _ _ _ _ _ Hof.out).mono ?_; rintro e w2 ⟨(n|s), hx, rfl, hb2⟩) <;> obtain ⟨hc2, hf2⟩ := bcell hb2))
    all_goals
      (refine bodyPost_res rfl ?_; simp only [results, Tryd.results93]; go_simp; refine resPost_ok ?_)
      first
        | refine RetX.mk (.error n) ?_ ?_ rfl
        | refine RetX.mk (.ok s) ?_ ?_ rfl
      · (repeat (first | (with_reducible exact Up.refl _) | (with_reducible assumption) | (with_reducible refine Up.alloc ?_ _) | (with_reducible refine Up.drew ?_) | ((with_reducible refine Up.set ?_ ?_ _); rotate_left; focus (first | omega | (simp; done) | (simp; omega))) | (with_reducible refine Up.drewN ?_ _) | (with_reducible refine Up.call ?_ (by with_reducible assumption))))
      · first | exact hx | rfl
end Go.Proofs.YtafhcppigpjcpaaDoor
