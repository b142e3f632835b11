/- The walks of package span, but for two and corners. -/
import Derived.Test.YthoeflkgbimipaaDoorSpan
set_option linter.unusedVariables false
set_option linter.unusedSimpArgs false
namespace Go.Proofs.YthoeflkgbimipaaDoor
open Go.RowKit

theorem check_any (lo hi : Int) (w : World) :
    Calls Tryd.prog 23 #[.agg #[.int .i64 lo, .int .i64 hi]] w (RetX errV (checkF ⟨lo, hi⟩) w) := by
  go_enter Tryd.func23, Tryd.ntmps23
  go_wp2_with (go_at_call 53; refine (may_any _ _).mono ?_; rintro e w' ⟨rfl, rfl⟩)
  all_goals
    go_ret
    first
      | refine RetX.mk (some 1) ?_ (by simp_all [checkF, mayB_true, mayB_false]) rfl
      | refine RetX.mk (some 3) ?_ (by simp_all [checkF, mayB_true, mayB_false]; try omega) rfl
      | refine RetX.mk none ?_ (by simp_all [checkF, mayB_true, mayB_false]; try omega) rfl
    (repeat (first | (with_reducible exact Up.refl _) | (with_reducible assumption) | (with_reducible refine Up.alloc ?_ _) | (with_reducible refine Up.drew ?_) | ((with_reducible refine Up.set ?_ ?_ _); rotate_left; focus (first | omega | (simp; done) | (simp; omega))) | (with_reducible refine Up.drewN ?_ _) | (with_reducible refine Up.call ?_ (by with_reducible assumption))))
theorem alone_any (n : Int) (w : World) :
    Calls Tryd.prog 110 #[.int .i64 n] w (RetX spV ⟨n, n⟩ w) := by
  go_enter Tryd.func110, Tryd.ntmps110
  go_wp2
  all_goals
    (refine bodyPost_res rfl ?_; simp only [results, Tryd.results110]; go_simp; refine resPost_ok ?_)
    refine RetX.same ?_ rfl
    (repeat (first | (with_reducible exact Up.refl _) | (with_reducible assumption) | (with_reducible refine Up.alloc ?_ _) | (with_reducible refine Up.drew ?_) | ((with_reducible refine Up.set ?_ ?_ _); rotate_left; focus (first | omega | (simp; done) | (simp; omega))) | (with_reducible refine Up.drewN ?_ _) | (with_reducible refine Up.call ?_ (by with_reducible assumption))))
theorem fits_any (lo hi : Int) (w : World) :
    Calls Tryd.prog 96 #[.agg #[.int .i64 lo, .int .i64 hi]] w (RetX spR (fitsF ⟨lo, hi⟩) w) := by
  go_enter Tryd.func96, Tryd.ntmps96
  go_wp2_with (go_at_call 53; refine (may_any _ _).mono ?_; rintro e w' ⟨rfl, rfl⟩)
  all_goals
    (refine bodyPost_res rfl ?_; simp only [results, Tryd.results96]; go_simp; refine resPost_ok ?_)
    first
      | refine RetX.mk (.error 4) ?_ (by simp_all [fitsF, mayB_true, mayB_false]) rfl
      | refine RetX.mk (.ok ⟨lo, hi⟩) ?_ (by simp_all [fitsF, mayB_true, mayB_false]) rfl
    (repeat (first | (with_reducible exact Up.refl _) | (with_reducible assumption) | (with_reducible refine Up.alloc ?_ _) | (with_reducible refine Up.drew ?_) | ((with_reducible refine Up.set ?_ ?_ _); rotate_left; focus (first | omega | (simp; done) | (simp; omega))) | (with_reducible refine Up.drewN ?_ _) | (with_reducible refine Up.call ?_ (by with_reducible assumption))))
theorem zero_any (lo hi : Int) (w : World) :
    Calls Tryd.prog 94 #[.agg #[.int .i64 lo, .int .i64 hi]] w (RetX boolV (zeroF ⟨lo, hi⟩) w) := by
  go_enter Tryd.func94, Tryd.ntmps94
  go_wp2
  all_goals
    go_ret
    refine RetX.mk _ ?_ rfl (by simp_all [zeroF, boolV]; try omega)
    (repeat (first | (with_reducible exact Up.refl _) | (with_reducible assumption) | (with_reducible refine Up.alloc ?_ _) | (with_reducible refine Up.drew ?_) | ((with_reducible refine Up.set ?_ ?_ _); rotate_left; focus (first | omega | (simp; done) | (simp; omega))) | (with_reducible refine Up.drewN ?_ _) | (with_reducible refine Up.call ?_ (by with_reducible assumption))))
theorem sum_any (lo hi lo' hi' : Int) (w : World) (h1 : M lo) (h2 : M hi) (h3 : M lo') (h4 : M hi') :
    Calls Tryd.prog 67 #[.agg #[.int .i64 lo, .int .i64 hi], .agg #[.int .i64 lo', .int .i64 hi']] w (RetX spR (sumF ⟨lo, hi⟩ ⟨lo', hi'⟩) w) := by
  obtain ⟨_, _⟩ := h1; obtain ⟨_, _⟩ := h2; obtain ⟨_, _⟩ := h3; obtain ⟨_, _⟩ := h4
  go_enter Tryd.func67, Tryd.ntmps67
  go_wp2_with ((go_at_call 96; refine (fits_any _ _ _).mono ?_; rintro e w' ⟨(n|s), hx, rfl, hb⟩) <;> obtain ⟨hc, hf⟩ := bcell hb)
  all_goals
    (refine bodyPost_res rfl ?_; simp only [results, Tryd.results67]; go_simp; refine resPost_ok ?_)
    first
      | refine RetX.mk (.error n) ?_ hx rfl
      | refine RetX.mk (.ok s) ?_ hx rfl
    (repeat (first | (with_reducible exact Up.refl _) | (with_reducible assumption) | (with_reducible refine Up.alloc ?_ _) | (with_reducible refine Up.drew ?_) | ((with_reducible refine Up.set ?_ ?_ _); rotate_left; focus (first | omega | (simp; done) | (simp; omega))) | (with_reducible refine Up.drewN ?_ _) | (with_reducible refine Up.call ?_ (by with_reducible assumption))))
theorem rest_any (lo hi lo' hi' : Int) (w : World) (h1 : M lo) (h2 : M hi) (h3 : M lo') (h4 : M hi') :
    Calls Tryd.prog 68 #[.agg #[.int .i64 lo, .int .i64 hi], .agg #[.int .i64 lo', .int .i64 hi']] w (RetX spR (restF ⟨lo, hi⟩ ⟨lo', hi'⟩) w) := by
  obtain ⟨_, _⟩ := h1; obtain ⟨_, _⟩ := h2; obtain ⟨_, _⟩ := h3; obtain ⟨_, _⟩ := h4
  go_enter Tryd.func68, Tryd.ntmps68
  go_wp2_with ((go_at_call 96; refine (fits_any _ _ _).mono ?_; rintro e w' ⟨(n|s), hx, rfl, hb⟩) <;> obtain ⟨hc, hf⟩ := bcell hb)
  all_goals
    (refine bodyPost_res rfl ?_; simp only [results, Tryd.results68]; go_simp; refine resPost_ok ?_)
    first
      | refine RetX.mk (.error n) ?_ hx rfl
      | refine RetX.mk (.ok s) ?_ hx rfl
    (repeat (first | (with_reducible exact Up.refl _) | (with_reducible assumption) | (with_reducible refine Up.alloc ?_ _) | (with_reducible refine Up.drew ?_) | ((with_reducible refine Up.set ?_ ?_ _); rotate_left; focus (first | omega | (simp; done) | (simp; omega))) | (with_reducible refine Up.drewN ?_ _) | (with_reducible refine Up.call ?_ (by with_reducible assumption))))
theorem both_span (lo hi lo' hi' : Int) (w : World) :
    Calls Tryd.prog 72 #[.agg #[.int .i64 lo, .int .i64 hi], .agg #[.int .i64 lo', .int .i64 hi']] w (RetX spV (bothF ⟨lo, hi⟩ ⟨lo', hi'⟩) w) := by
  go_enter Tryd.func72, Tryd.ntmps72
  go_wp2
  all_goals
    (refine bodyPost_res rfl ?_; simp only [results, Tryd.results72]; go_simp; refine resPost_ok ?_)
    refine RetX.same ?_ (by simp [bothF, spV]; omega)
    (repeat (first | (with_reducible exact Up.refl _) | (with_reducible assumption) | (with_reducible refine Up.alloc ?_ _) | (with_reducible refine Up.drew ?_) | ((with_reducible refine Up.set ?_ ?_ _); rotate_left; focus (first | omega | (simp; done) | (simp; omega))) | (with_reducible refine Up.drewN ?_ _) | (with_reducible refine Up.call ?_ (by with_reducible assumption))))
theorem common_any (lo hi lo' hi' : Int) (w : World) :
    Calls Tryd.prog 73 #[.agg #[.int .i64 lo, .int .i64 hi], .agg #[.int .i64 lo', .int .i64 hi']] w (RetX spR (comF ⟨lo, hi⟩ ⟨lo', hi'⟩) w) := by
  go_enter Tryd.func73, Tryd.ntmps73
  go_wp2
  all_goals
    (refine bodyPost_res rfl ?_; simp only [results, Tryd.results73]; go_simp; refine resPost_ok ?_)
    first
      | refine RetX.mk (.error 5) ?_ (by simp only [comF]; rw [if_pos (by omega)]) rfl
      | refine RetX.mk (.ok ⟨max lo lo', min hi hi'⟩) ?_ (by simp only [comF]; rw [if_neg (by omega)]) (by simp [spR]; omega)
    (repeat (first | (with_reducible exact Up.refl _) | (with_reducible assumption) | (with_reducible refine Up.alloc ?_ _) | (with_reducible refine Up.drew ?_) | ((with_reducible refine Up.set ?_ ?_ _); rotate_left; focus (first | omega | (simp; done) | (simp; omega))) | (with_reducible refine Up.drewN ?_ _) | (with_reducible refine Up.call ?_ (by with_reducible assumption))))
end Go.Proofs.YthoeflkgbimipaaDoor
