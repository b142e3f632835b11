/- The walks of span's two, and of what is made of any two spans. -/
import Derived.Test.YthoeflkgbimipaaDoorSpand
set_option linter.unusedVariables false
set_option linter.unusedSimpArgs false
namespace Go.Proofs.YthoeflkgbimipaaDoor
open Go.RowKit

set_option maxRecDepth 100000 in
set_option maxHeartbeats 800000 in
theorem two_any (K : Nat) (hen : ∀ args w, (callFunc K args).run Tryd.prog w = .ok (.enter K args) w) (F : Sp → Sp → Except Nat Sp) (lo hi lo' hi' : Int) (w : World)
    (hdo : Rt ⟨lo, hi⟩ → Rt ⟨lo', hi'⟩ → ∀ W, Calls Tryd.prog K #[.agg #[.int .i64 lo, .int .i64 hi], .agg #[.int .i64 lo', .int .i64 hi']] W (RetX spR (F ⟨lo, hi⟩ ⟨lo', hi'⟩) W)) :
    Calls Tryd.prog 66 #[.agg #[.int .i64 lo, .int .i64 hi], .agg #[.int .i64 lo', .int .i64 hi'], .func (.func K) #[] #[]] w (RetX spR (twoF F ⟨lo, hi⟩ ⟨lo', hi'⟩) w) := by
  have Hdo := hid hdo; clear hdo
  cases ha : checkF ⟨lo, hi⟩ with
  | some n =>
    have hr : twoF F ⟨lo, hi⟩ ⟨lo', hi'⟩ = .error n := by simp [twoF, ha]
    rw [hr]
    have Ha := hid ha; clear ha hr Hdo
    go_enter Tryd.func66, Tryd.ntmps66
    go_wp2
    refine wp_loop_rounds 1 ?_
    rw [rounds_succ]
    go_wp2_with ((go_at_call 23; refine (check_any _ _ _).mono ?_; rintro e w' ⟨x, hx, rfl, hb⟩); rw [Ha.out] at hx; subst hx; obtain ⟨hc, hf⟩ := bcell hb; obtain ⟨_, _, _, _, _⟩ : w.heap.size < w'.heap.size ∧ w.heap.size + 1 < w'.heap.size ∧ w.heap.size + 1 + 1 < w'.heap.size ∧ w.heap.size + 1 + 1 + 1 < w'.heap.size ∧ w.heap.size + 1 + 1 + 1 + 1 < w'.heap.size := (by have hle := Up.le hb; first | omega | (simp at hle; omega) | (simp at hle; done)))
    (refine bodyPost_res rfl ?_; simp only [results, Tryd.results66]; go_simp; refine resPost_ok ?_)
    refine RetX.mk (Except.error n : Except Nat Sp) ?_ rfl rfl
    (repeat (first | (with_reducible exact Up.refl _) | (with_reducible assumption) | (with_reducible refine Up.alloc ?_ _) | (with_reducible refine Up.drew ?_) | ((with_reducible refine Up.set ?_ ?_ _); rotate_left; focus (first | omega | (simp; done) | (simp; omega))) | (with_reducible refine Up.drewN ?_ _) | (with_reducible refine Up.call ?_ (by with_reducible assumption))))
  | none =>
    cases hb0 : checkF ⟨lo', hi'⟩ with
    | some n =>
      have hr : twoF F ⟨lo, hi⟩ ⟨lo', hi'⟩ = .error n := by simp [twoF, ha, hb0]
      rw [hr]
      have Ha := hid ha; have Hb := hid hb0; clear ha hb0 hr Hdo
      go_enter Tryd.func66, Tryd.ntmps66
      go_wp2
      refine wp_loop_rounds 2 ?_
      rw [rounds_succ]
      go_wp2_with ((go_at_call 23; refine (check_any lo hi _).mono ?_; rintro e w' ⟨x, hx, rfl, hb⟩); rw [Ha.out] at hx; subst hx; obtain ⟨hc, hf⟩ := bcell hb; obtain ⟨_, _, _, _, _⟩ : w.heap.size < w'.heap.size ∧ w.heap.size + 1 < w'.heap.size ∧ w.heap.size + 1 + 1 < w'.heap.size ∧ w.heap.size + 1 + 1 + 1 < w'.heap.size ∧ w.heap.size + 1 + 1 + 1 + 1 < w'.heap.size := (by have hle := Up.le hb; first | omega | (simp at hle; omega) | (simp at hle; done)))
      rw [rounds_succ]
      go_wp2_with ((go_at_call 23; refine (check_any lo' hi' _).mono ?_; rintro e w2 ⟨x, hx, rfl, hb2⟩); rw [Hb.out] at hx; subst hx; obtain ⟨hc2, hf2⟩ := bcell hb2; obtain ⟨_, _, _, _⟩ : w.heap.size < w2.heap.size ∧ w.heap.size + 1 < w2.heap.size ∧ w.heap.size + 1 + 1 < w2.heap.size ∧ w.heap.size + 1 + 1 + 1 < w2.heap.size := (by have hle := Up.le hb2; first | omega | (simp at hle; omega) | (simp at hle; done)))
      (refine bodyPost_res rfl ?_; simp only [results, Tryd.results66]; go_simp; refine resPost_ok ?_)
      refine RetX.mk (Except.error n : Except Nat Sp) ?_ rfl rfl
      (repeat (first | (with_reducible exact Up.refl _) | (with_reducible assumption) | (with_reducible refine Up.alloc ?_ _) | (with_reducible refine Up.drew ?_) | ((with_reducible refine Up.set ?_ ?_ _); rotate_left; focus (first | omega | (simp; done) | (simp; omega))) | (with_reducible refine Up.drewN ?_ _) | (with_reducible refine Up.call ?_ (by with_reducible assumption))))
    | none =>
      have hr : twoF F ⟨lo, hi⟩ ⟨lo', hi'⟩ = F ⟨lo, hi⟩ ⟨lo', hi'⟩ := by simp [twoF, ha, hb0]
      rw [hr]
      have Hd := hid (Hdo.out (checkF_none.1 ha) (checkF_none.1 hb0))
      have Ha := hid ha; have Hb := hid hb0; clear ha hb0 hr Hdo
      go_enter Tryd.func66, Tryd.ntmps66
      go_wp2
      refine wp_loop_rounds 3 ?_
      rw [rounds_succ]
      go_wp2_with ((go_at_call 23; refine (check_any lo hi _).mono ?_; rintro e w' ⟨x, hx, rfl, hb⟩); rw [Ha.out] at hx; subst hx; obtain ⟨hc, hf⟩ := bcell hb; obtain ⟨_, _, _, _, _⟩ : w.heap.size < w'.heap.size ∧ w.heap.size + 1 < w'.heap.size ∧ w.heap.size + 1 + 1 < w'.heap.size ∧ w.heap.size + 1 + 1 + 1 < w'.heap.size ∧ w.heap.size + 1 + 1 + 1 + 1 < w'.heap.size := (by have hle := Up.le hb; first | omega | (simp at hle; omega) | (simp at hle; done)))
      rw [rounds_succ]
      go_wp2_with ((go_at_call 23; refine (check_any lo' hi' _).mono ?_; rintro e w2 ⟨x, hx, rfl, hb2⟩); rw [Hb.out] at hx; subst hx; obtain ⟨hc2, hf2⟩ := bcell hb2; obtain ⟨_, _, _, _⟩ : w.heap.size < w2.heap.size ∧ w.heap.size + 1 < w2.heap.size ∧ w.heap.size + 1 + 1 < w2.heap.size ∧ w.heap.size + 1 + 1 + 1 < w2.heap.size := (by have hle := Up.le hb2; first | omega | (simp at hle; omega) | (simp at hle; done)))
      rw [rounds_succ]
      go_wp2_with (refine (Hd.out _).mono ?_; rintro e w3 ⟨(n|s), hx, rfl, hb3⟩ <;> obtain ⟨hc3, hf3⟩ := bcell hb3)
      all_goals
        (refine bodyPost_res rfl ?_; simp only [results, Tryd.results66]; go_simp; refine resPost_ok ?_)
        first
          | refine RetX.mk (.error n) ?_ ?_ rfl
          | refine RetX.mk (.ok s) ?_ ?_ rfl
        · (repeat (first | (with_reducible exact Up.refl _) | (with_reducible assumption) | (with_reducible refine Up.alloc ?_ _) | (with_reducible refine Up.drew ?_) | ((with_reducible refine Up.set ?_ ?_ _); rotate_left; focus (first | omega | (simp; done) | (simp; omega))) | (with_reducible refine Up.drewN ?_ _) | (with_reducible refine Up.call ?_ (by with_reducible assumption))))
        · first | exact hx | rfl
theorem rt_M {lo hi : Int} (h : Rt ⟨lo, hi⟩) : M lo ∧ M hi ∧ lo ≤ hi := h
theorem sadd_any (lo hi lo' hi' : Int) (w : World) :
    Calls Tryd.prog 31 #[.agg #[.int .i64 lo, .int .i64 hi], .agg #[.int .i64 lo', .int .i64 hi']] w (RetX spR (twoF sumF ⟨lo, hi⟩ ⟨lo', hi'⟩) w) := by
  have Hd := hid (two_any 67 (enters_of Tryd.func67 (by kernel_rfl) rfl) sumF lo hi lo' hi')
  have Hs := hid (fun (h1 : Rt ⟨lo, hi⟩) (h2 : Rt ⟨lo', hi'⟩) W => sum_any lo hi lo' hi' W h1.1 h1.2.1 h2.1 h2.2.1)
  go_enter Tryd.func31, Tryd.ntmps31
  go_wp2_with ((go_at_call 66; refine (Hd.out _ Hs.out).mono ?_; rintro e w' ⟨(n|s), hx, rfl, hb⟩) <;> obtain ⟨hc, hf⟩ := bcell hb)
  all_goals
    (refine bodyPost_res rfl ?_; simp only [results, Tryd.results31]; go_simp; refine resPost_ok ?_)
    first
      | refine RetX.mk (.error n) ?_ ?_ rfl
      | refine RetX.mk (.ok s) ?_ ?_ rfl
    · (repeat (first | (with_reducible exact Up.refl _) | (with_reducible assumption) | (with_reducible refine Up.alloc ?_ _) | (with_reducible refine Up.drew ?_) | ((with_reducible refine Up.set ?_ ?_ _); rotate_left; focus (first | omega | (simp; done) | (simp; omega))) | (with_reducible refine Up.drewN ?_ _) | (with_reducible refine Up.call ?_ (by with_reducible assumption))))
    · first | exact hx | rfl
theorem sless_any (lo hi lo' hi' : Int) (w : World) :
    Calls Tryd.prog 32 #[.agg #[.int .i64 lo, .int .i64 hi], .agg #[.int .i64 lo', .int .i64 hi']] w (RetX spR (twoF restF ⟨lo, hi⟩ ⟨lo', hi'⟩) w) := by
  have Hd := hid (two_any 68 (enters_of Tryd.func68 (by kernel_rfl) rfl) restF lo hi lo' hi')
  have Hs := hid (fun (h1 : Rt ⟨lo, hi⟩) (h2 : Rt ⟨lo', hi'⟩) W => rest_any lo hi lo' hi' W h1.1 h1.2.1 h2.1 h2.2.1)
  go_enter Tryd.func32, Tryd.ntmps32
  go_wp2_with ((go_at_call 66; refine (Hd.out _ Hs.out).mono ?_; rintro e w' ⟨(n|s), hx, rfl, hb⟩) <;> obtain ⟨hc, hf⟩ := bcell hb)
  all_goals
    (refine bodyPost_res rfl ?_; simp only [results, Tryd.results32]; go_simp; refine resPost_ok ?_)
    first
      | refine RetX.mk (.error n) ?_ ?_ rfl
      | refine RetX.mk (.ok s) ?_ ?_ rfl
    · (repeat (first | (with_reducible exact Up.refl _) | (with_reducible assumption) | (with_reducible refine Up.alloc ?_ _) | (with_reducible refine Up.drew ?_) | ((with_reducible refine Up.set ?_ ?_ _); rotate_left; focus (first | omega | (simp; done) | (simp; omega))) | (with_reducible refine Up.drewN ?_ _) | (with_reducible refine Up.call ?_ (by with_reducible assumption))))
    · first | exact hx | rfl
theorem stimes_any (lo hi lo' hi' : Int) (w : World) :
    Calls Tryd.prog 33 #[.agg #[.int .i64 lo, .int .i64 hi], .agg #[.int .i64 lo', .int .i64 hi']] w (RetX spR (twoF prodF ⟨lo, hi⟩ ⟨lo', hi'⟩) w) := by
  have Hd := hid (two_any 69 (enters_of Tryd.func69 (by kernel_rfl) rfl) prodF lo hi lo' hi')
  have Hs := hid (fun (h1 : Rt ⟨lo, hi⟩) (h2 : Rt ⟨lo', hi'⟩) W => product_any lo hi lo' hi' W h1.1 h1.2.1 h2.1 h2.2.1)
  go_enter Tryd.func33, Tryd.ntmps33
  go_wp2_with ((go_at_call 66; refine (Hd.out _ Hs.out).mono ?_; rintro e w' ⟨(n|s), hx, rfl, hb⟩) <;> obtain ⟨hc, hf⟩ := bcell hb)
  all_goals
    (refine bodyPost_res rfl ?_; simp only [results, Tryd.results33]; go_simp; refine resPost_ok ?_)
    first
      | refine RetX.mk (.error n) ?_ ?_ rfl
      | refine RetX.mk (.ok s) ?_ ?_ rfl
    · (repeat (first | (with_reducible exact Up.refl _) | (with_reducible assumption) | (with_reducible refine Up.alloc ?_ _) | (with_reducible refine Up.drew ?_) | ((with_reducible refine Up.set ?_ ?_ _); rotate_left; focus (first | omega | (simp; done) | (simp; omega))) | (with_reducible refine Up.drewN ?_ _) | (with_reducible refine Up.call ?_ (by with_reducible assumption))))
    · first | exact hx | rfl
theorem sby_any (lo hi lo' hi' : Int) (w : World) :
    Calls Tryd.prog 34 #[.agg #[.int .i64 lo, .int .i64 hi], .agg #[.int .i64 lo', .int .i64 hi']] w (RetX spR (twoF quoF ⟨lo, hi⟩ ⟨lo', hi'⟩) w) := by
  have Hd := hid (two_any 70 (enters_of Tryd.func70 (by kernel_rfl) rfl) quoF lo hi lo' hi')
  have Hs := hid (fun (h1 : Rt ⟨lo, hi⟩) (h2 : Rt ⟨lo', hi'⟩) W => quotient_any lo hi lo' hi' W h1.1 h1.2.1 h2.1 h2.2.1 h2.2.2)
  go_enter Tryd.func34, Tryd.ntmps34
  go_wp2_with ((go_at_call 66; refine (Hd.out _ Hs.out).mono ?_; rintro e w' ⟨(n|s), hx, rfl, hb⟩) <;> obtain ⟨hc, hf⟩ := bcell hb)
  all_goals
    (refine bodyPost_res rfl ?_; simp only [results, Tryd.results34]; go_simp; refine resPost_ok ?_)
    first
      | refine RetX.mk (.error n) ?_ ?_ rfl
      | refine RetX.mk (.ok s) ?_ ?_ rfl
    · (repeat (first | (with_reducible exact Up.refl _) | (with_reducible assumption) | (with_reducible refine Up.alloc ?_ _) | (with_reducible refine Up.drew ?_) | ((with_reducible refine Up.set ?_ ?_ _); rotate_left; focus (first | omega | (simp; done) | (simp; omega))) | (with_reducible refine Up.drewN ?_ _) | (with_reducible refine Up.call ?_ (by with_reducible assumption))))
    · first | exact hx | rfl
theorem smeet_any (lo hi lo' hi' : Int) (w : World) :
    Calls Tryd.prog 36 #[.agg #[.int .i64 lo, .int .i64 hi], .agg #[.int .i64 lo', .int .i64 hi']] w (RetX spR (twoF comF ⟨lo, hi⟩ ⟨lo', hi'⟩) w) := by
  have Hd := hid (two_any 73 (enters_of Tryd.func73 (by kernel_rfl) rfl) comF lo hi lo' hi')
  have Hs := hid (fun (h1 : Rt ⟨lo, hi⟩) (h2 : Rt ⟨lo', hi'⟩) W => common_any lo hi lo' hi' W)
  go_enter Tryd.func36, Tryd.ntmps36
  go_wp2_with ((go_at_call 66; refine (Hd.out _ Hs.out).mono ?_; rintro e w' ⟨(n|s), hx, rfl, hb⟩) <;> obtain ⟨hc, hf⟩ := bcell hb)
  all_goals
    (refine bodyPost_res rfl ?_; simp only [results, Tryd.results36]; go_simp; refine resPost_ok ?_)
    first
      | refine RetX.mk (.error n) ?_ ?_ rfl
      | refine RetX.mk (.ok s) ?_ ?_ rfl
    · (repeat (first | (with_reducible exact Up.refl _) | (with_reducible assumption) | (with_reducible refine Up.alloc ?_ _) | (with_reducible refine Up.drew ?_) | ((with_reducible refine Up.set ?_ ?_ _); rotate_left; focus (first | omega | (simp; done) | (simp; omega))) | (with_reducible refine Up.drewN ?_ _) | (with_reducible refine Up.call ?_ (by with_reducible assumption))))
    · first | exact hx | rfl
theorem hull1_any (lo hi lo' hi' : Int) (w : World) :
    Calls Tryd.prog 71 #[.agg #[.int .i64 lo, .int .i64 hi], .agg #[.int .i64 lo', .int .i64 hi']] w (RetX spR (.ok (bothF ⟨lo, hi⟩ ⟨lo', hi'⟩)) w) := by
  go_enter Tryd.func71, Tryd.ntmps71
  go_wp2_with ((go_at_call 72; refine (both_span _ _ _ _ _).mono ?_; rintro e w' ⟨s, hx, rfl, hb⟩); obtain ⟨hc, hf⟩ := bcell hb)
  all_goals
    (refine bodyPost_res rfl ?_; simp only [results, Tryd.results71]; go_simp; refine resPost_ok ?_)
    refine RetX.mk (.ok s) ?_ ?_ rfl
    · (repeat (first | (with_reducible exact Up.refl _) | (with_reducible assumption) | (with_reducible refine Up.alloc ?_ _) | (with_reducible refine Up.drew ?_) | ((with_reducible refine Up.set ?_ ?_ _); rotate_left; focus (first | omega | (simp; done) | (simp; omega))) | (with_reducible refine Up.drewN ?_ _) | (with_reducible refine Up.call ?_ (by with_reducible assumption))))
    · first | rw [hx] | rfl
theorem shull_any (lo hi lo' hi' : Int) (w : World) :
    Calls Tryd.prog 35 #[.agg #[.int .i64 lo, .int .i64 hi], .agg #[.int .i64 lo', .int .i64 hi']] w (RetX spR (twoF (fun a b => .ok (bothF a b)) ⟨lo, hi⟩ ⟨lo', hi'⟩) w) := by
  have Hd := hid (two_any 71 (enters_of Tryd.func71 (by kernel_rfl) rfl) (fun a b => .ok (bothF a b)) lo hi lo' hi')
  have Hs := hid (fun (h1 : Rt ⟨lo, hi⟩) (h2 : Rt ⟨lo', hi'⟩) W => hull1_any lo hi lo' hi' W)
  go_enter Tryd.func35, Tryd.ntmps35
  go_wp2_with ((go_at_call 66; refine (Hd.out _ Hs.out).mono ?_; rintro e w' ⟨(n|s), hx, rfl, hb⟩) <;> obtain ⟨hc, hf⟩ := bcell hb)
  all_goals
    (refine bodyPost_res rfl ?_; simp only [results, Tryd.results35]; go_simp; refine resPost_ok ?_)
    first
      | refine RetX.mk (.error n) ?_ ?_ rfl
      | refine RetX.mk (.ok s) ?_ ?_ rfl
    · (repeat (first | (with_reducible exact Up.refl _) | (with_reducible assumption) | (with_reducible refine Up.alloc ?_ _) | (with_reducible refine Up.drew ?_) | ((with_reducible refine Up.set ?_ ?_ _); rotate_left; focus (first | omega | (simp; done) | (simp; omega))) | (with_reducible refine Up.drewN ?_ _) | (with_reducible refine Up.call ?_ (by with_reducible assumption))))
    · first | exact hx | rfl
end Go.Proofs.YthoeflkgbimipaaDoor
