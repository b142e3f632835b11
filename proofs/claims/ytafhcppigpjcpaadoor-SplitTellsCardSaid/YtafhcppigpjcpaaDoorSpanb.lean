/- The walks of package span, but for two and corners. -/
import Derived.Test.YtafhcppigpjcpaaDoorSpan
set_option linter.unusedVariables false
set_option linter.unusedSimpArgs false
namespace Go.Proofs.YtafhcppigpjcpaaDoor
open Go.RowKit

theorem check_any (lo hi : Int) (w : World) :
    Calls Tryd.prog 26 #[.agg #[.int .i64 lo, .int .i64 hi]] w (RetX errV (checkF ⟨lo, hi⟩) w) := by
  go_enter Tryd.func26, Tryd.ntmps26
  go_wp2_with (go_at_call 95; refine (may_any _ _).mono ?_; rintro e w' ⟨rfl, rfl⟩)
  all_goals
    go_ret
    first
      | refine RetX.mk (some 1) ?_ (by simp_all [checkF, mayB_true, mayB_false]) rfl
      | refine RetX.mk (some 3) ?_ (by simp_all [checkF, mayB_true, mayB_false]; try omega) rfl
      | refine RetX.mk none ?_ (by simp_all [checkF, mayB_true, mayB_false]; try omega) rfl
    (repeat (first | (with_reducible exact Up.refl _) | (with_reducible assumption) | (with_reducible refine Up.alloc ?_ _) | (with_reducible refine Up.drew ?_) | ((with_reducible refine Up.set ?_ ?_ _); rotate_left; focus (first | omega | (simp; done) | (simp; omega))) | (with_reducible refine Up.drewN ?_ _) | (with_reducible refine Up.call ?_ (by with_reducible assumption))))
theorem alone_any (n : Int) (w : World) :
    Calls Tryd.prog 129 #[.int .i64 n] w (RetX spV ⟨n, n⟩ w) := by
  go_enter Tryd.func129, Tryd.ntmps129
  go_wp2
  all_goals
    (refine bodyPost_res rfl ?_; simp only [results, Tryd.results129]; go_simp; refine resPost_ok ?_)
    refine RetX.same ?_ rfl
    (repeat (first | (with_reducible exact Up.refl _) | (with_reducible assumption) | (with_reducible refine Up.alloc ?_ _) | (with_reducible refine Up.drew ?_) | ((with_reducible refine Up.set ?_ ?_ _); rotate_left; focus (first | omega | (simp; done) | (simp; omega))) | (with_reducible refine Up.drewN ?_ _) | (with_reducible refine Up.call ?_ (by with_reducible assumption))))
theorem fits_any (lo hi : Int) (w : World) :
    Calls Tryd.prog 131 #[.agg #[.int .i64 lo, .int .i64 hi]] w (RetX spR (fitsF ⟨lo, hi⟩) w) := by
  go_enter Tryd.func131, Tryd.ntmps131
  go_wp2_with (go_at_call 95; refine (may_any _ _).mono ?_; rintro e w' ⟨rfl, rfl⟩)
  all_goals
    (refine bodyPost_res rfl ?_; simp only [results, Tryd.results131]; go_simp; refine resPost_ok ?_)
    first
      | refine RetX.mk (.error 4) ?_ (by simp_all [fitsF, mayB_true, mayB_false]) rfl
      | refine RetX.mk (.ok ⟨lo, hi⟩) ?_ (by simp_all [fitsF, mayB_true, mayB_false]) rfl
    (repeat (first | (with_reducible exact Up.refl _) | (with_reducible assumption) | (with_reducible refine Up.alloc ?_ _) | (with_reducible refine Up.drew ?_) | ((with_reducible refine Up.set ?_ ?_ _); rotate_left; focus (first | omega | (simp; done) | (simp; omega))) | (with_reducible refine Up.drewN ?_ _) | (with_reducible refine Up.call ?_ (by with_reducible assumption))))
theorem zero_any (lo hi : Int) (w : World) :
    Calls Tryd.prog 130 #[.agg #[.int .i64 lo, .int .i64 hi]] w (RetX boolV (zeroF ⟨lo, hi⟩) w) := by
  go_enter Tryd.func130, Tryd.ntmps130
  go_wp2
  all_goals
    go_ret
    refine RetX.mk _ ?_ rfl (by simp_all [zeroF, boolV]; try omega)
    (repeat (first | (with_reducible exact Up.refl _) | (with_reducible assumption) | (with_reducible refine Up.alloc ?_ _) | (with_reducible refine Up.drew ?_) | ((with_reducible refine Up.set ?_ ?_ _); rotate_left; focus (first | omega | (simp; done) | (simp; omega))) | (with_reducible refine Up.drewN ?_ _) | (with_reducible refine Up.call ?_ (by with_reducible assumption))))
theorem sum_any (lo hi lo' hi' : Int) (w : World) (h1 : M lo) (h2 : M hi) (h3 : M lo') (h4 : M hi') :
    Calls Tryd.prog 85 #[.agg #[.int .i64 lo, .int .i64 hi], .agg #[.int .i64 lo', .int .i64 hi']] w (RetX spR (sumF ⟨lo, hi⟩ ⟨lo', hi'⟩) w) := by
  obtain ⟨_, _⟩ := h1; obtain ⟨_, _⟩ := h2; obtain ⟨_, _⟩ := h3; obtain ⟨_, _⟩ := h4
  go_enter Tryd.func85, Tryd.ntmps85
  go_wp2_with ((go_at_call 131; refine (fits_any _ _ _).mono ?_; rintro e w' ⟨(n|s), hx, rfl, hb⟩) <;> obtain ⟨hc, hf⟩ := bcell hb)
  all_goals
    (refine bodyPost_res rfl ?_; simp only [results, Tryd.results85]; go_simp; refine resPost_ok ?_)
    first
      | refine RetX.mk (.error n) ?_ hx rfl
      | refine RetX.mk (.ok s) ?_ hx rfl
    (repeat (first | (with_reducible exact Up.refl _) | (with_reducible assumption) | (with_reducible refine Up.alloc ?_ _) | (with_reducible refine Up.drew ?_) | ((with_reducible refine Up.set ?_ ?_ _); rotate_left; focus (first | omega | (simp; done) | (simp; omega))) | (with_reducible refine Up.drewN ?_ _) | (with_reducible refine Up.call ?_ (by with_reducible assumption))))
theorem rest_any (lo hi lo' hi' : Int) (w : World) (h1 : M lo) (h2 : M hi) (h3 : M lo') (h4 : M hi') :
    Calls Tryd.prog 86 #[.agg #[.int .i64 lo, .int .i64 hi], .agg #[.int .i64 lo', .int .i64 hi']] w (RetX spR (restF ⟨lo, hi⟩ ⟨lo', hi'⟩) w) := by
  obtain ⟨_, _⟩ := h1; obtain ⟨_, _⟩ := h2; obtain ⟨_, _⟩ := h3; obtain ⟨_, _⟩ := h4
  go_enter Tryd.func86, Tryd.ntmps86
  go_wp2_with ((go_at_call 131; refine (fits_any _ _ _).mono ?_; rintro e w' ⟨(n|s), hx, rfl, hb⟩) <;> obtain ⟨hc, hf⟩ := bcell hb)
  all_goals
    (refine bodyPost_res rfl ?_; simp only [results, Tryd.results86]; go_simp; refine resPost_ok ?_)
    first
      | refine RetX.mk (.error n) ?_ hx rfl
      | refine RetX.mk (.ok s) ?_ hx rfl
    (repeat (first | (with_reducible exact Up.refl _) | (with_reducible assumption) | (with_reducible refine Up.alloc ?_ _) | (with_reducible refine Up.drew ?_) | ((with_reducible refine Up.set ?_ ?_ _); rotate_left; focus (first | omega | (simp; done) | (simp; omega))) | (with_reducible refine Up.drewN ?_ _) | (with_reducible refine Up.call ?_ (by with_reducible assumption))))
theorem both_span (lo hi lo' hi' : Int) (w : World) :
    Calls Tryd.prog 109 #[.agg #[.int .i64 lo, .int .i64 hi], .agg #[.int .i64 lo', .int .i64 hi']] w (RetX spV (bothF ⟨lo, hi⟩ ⟨lo', hi'⟩) w) := by
  go_enter Tryd.func109, Tryd.ntmps109
  go_wp2
  all_goals
    (refine bodyPost_res rfl ?_; simp only [results, Tryd.results109]; go_simp; refine resPost_ok ?_)
    refine RetX.same ?_ (by simp [bothF, spV]; omega)
    (repeat (first | (with_reducible exact Up.refl _) | (with_reducible assumption) | (with_reducible refine Up.alloc ?_ _) | (with_reducible refine Up.drew ?_) | ((with_reducible refine Up.set ?_ ?_ _); rotate_left; focus (first | omega | (simp; done) | (simp; omega))) | (with_reducible refine Up.drewN ?_ _) | (with_reducible refine Up.call ?_ (by with_reducible assumption))))
theorem common_any (lo hi lo' hi' : Int) (w : World) :
    Calls Tryd.prog 139 #[.agg #[.int .i64 lo, .int .i64 hi], .agg #[.int .i64 lo', .int .i64 hi']] w (RetX spR (comF ⟨lo, hi⟩ ⟨lo', hi'⟩) w) := by
  go_enter Tryd.func139, Tryd.ntmps139
  go_wp2
  all_goals
    (refine bodyPost_res rfl ?_; simp only [results, Tryd.results139]; go_simp; refine resPost_ok ?_)
    first
      | refine RetX.mk (.error 5) ?_ (by simp only [comF]; rw [if_pos (by omega)]) rfl
      | refine RetX.mk (.ok ⟨max lo lo', min hi hi'⟩) ?_ (by simp only [comF]; rw [if_neg (by omega)]) (by simp [spR]; omega)
    (repeat (first | (with_reducible exact Up.refl _) | (with_reducible assumption) | (with_reducible refine Up.alloc ?_ _) | (with_reducible refine Up.drew ?_) | ((with_reducible refine Up.set ?_ ?_ _); rotate_left; focus (first | omega | (simp; done) | (simp; omega))) | (with_reducible refine Up.drewN ?_ _) | (with_reducible refine Up.call ?_ (by with_reducible assumption))))
end Go.Proofs.YtafhcppigpjcpaaDoor
