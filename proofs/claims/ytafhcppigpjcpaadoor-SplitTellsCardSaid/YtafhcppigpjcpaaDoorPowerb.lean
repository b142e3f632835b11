/- The walks of package power: signed, Raised, Of. -/
import Derived.Test.YtafhcppigpjcpaaDoorPower
set_option linter.unusedVariables false
set_option linter.unusedSimpArgs false
namespace Go.Proofs.YtafhcppigpjcpaaDoor
open Go.RowKit

theorem signed_any (n : Int) (t : Nat) (w : World) (h1 : -1000000000 ≤ n) (h2 : n ≤ 1000000000) (ht : t ≤ 100) :
    Calls Tryd.prog 163 #[.int .i64 n, .int .i64 t] w (RetX int2R (signedF n t) w) := by
  by_cases h0 : 0 ≤ n
  · have hr : signedF n t = againF n t := by simp [signedF, h0]
    rw [hr]
    clear hr
    go_enter Tryd.func163, Tryd.ntmps163
    go_wp2_with (((go_at_call 167; refine (again_any _ _ _ (by omega) (by omega) (by omega)).mono ?_; rintro e w1 ⟨(n1|s), hx, rfl, hb1⟩) <;> (obtain ⟨hc1, hf1⟩ := bcell hb1)))
    all_goals
      go_ret3
      first
        | refine RetX.mk (.error n1 : Except Nat (Int × Int)) ?_ ?_ rfl
        | refine RetX.mk (.ok s : Except Nat (Int × Int)) ?_ ?_ rfl
      · (repeat (first | (with_reducible exact Up.refl _) | (with_reducible assumption) | (with_reducible refine Up.alloc ?_ _) | (with_reducible refine Up.drew ?_) | ((with_reducible refine Up.set ?_ ?_ _); rotate_left; focus (first | omega | (simp; done) | (simp; omega))) | (with_reducible refine Up.drewN ?_ _) | (with_reducible refine Up.call ?_ (by with_reducible assumption))))
      · first | exact hx | rfl
  · cases hr : againF (-n) t with
    | error e =>
      have hr' : signedF n t = .error e := by simp [signedF, h0, hr]
      rw [hr']
      have Hr := hid hr; clear hr hr'
      go_enter Tryd.func163, Tryd.ntmps163
      go_wp2_with (((go_at_call 167; refine (again_any _ _ _ (by omega) (by omega) (by omega)).mono ?_; rintro e w1 ⟨x, hx, rfl, hb1⟩; rw [Hr.out] at hx; subst hx) <;> (obtain ⟨hc1, hf1⟩ := bcell hb1)))
      all_goals
        go_ret3
        refine RetX.mk (.error e : Except Nat (Int × Int)) ?_ rfl rfl
        (repeat (first | (with_reducible exact Up.refl _) | (with_reducible assumption) | (with_reducible refine Up.alloc ?_ _) | (with_reducible refine Up.drew ?_) | ((with_reducible refine Up.set ?_ ?_ _); rotate_left; focus (first | omega | (simp; done) | (simp; omega))) | (with_reducible refine Up.drewN ?_ _) | (with_reducible refine Up.call ?_ (by with_reducible assumption))))
    | ok p =>
      obtain ⟨a, b⟩ := p
      have hr' : signedF n t = .ok (-b, -a) := by simp [signedF, h0, hr]
      rw [hr']
      obtain ⟨b1, b2, b3⟩ := again_bd (-n) (by omega) t a b hr
      have Hr := hid hr; clear hr hr'
      go_enter Tryd.func163, Tryd.ntmps163
      go_wp2_with (((go_at_call 167; refine (again_any _ _ _ (by omega) (by omega) (by omega)).mono ?_; rintro e w1 ⟨x, hx, rfl, hb1⟩; rw [Hr.out] at hx; subst hx) <;> (obtain ⟨hc1, hf1⟩ := bcell hb1)))
      all_goals
        go_ret3
        refine RetX.mk (.ok (-b, -a) : Except Nat (Int × Int)) ?_ rfl rfl
        (repeat (first | (with_reducible exact Up.refl _) | (with_reducible assumption) | (with_reducible refine Up.alloc ?_ _) | (with_reducible refine Up.drew ?_) | ((with_reducible refine Up.set ?_ ?_ _); rotate_left; focus (first | omega | (simp; done) | (simp; omega))) | (with_reducible refine Up.drewN ?_ _) | (with_reducible refine Up.call ?_ (by with_reducible assumption))))
theorem apart_bd (a : Sp) (h1 : M a.lo) (h2 : M a.hi) : M (apartF a).1 ∧ M (apartF a).2 := by
  obtain ⟨_, _⟩ := h1; obtain ⟨_, _⟩ := h2
  unfold apartF M
  dsimp only
  split <;> omega

theorem raised_bad1 {p : Int × Int} {t e : Nat} (h : signedF p.1 t = .error e) : raisedG p t = .error e := by simp [raisedG, h]
theorem raised_bad2 {p : Int × Int} {t e : Nat} {x : Int × Int} (h : signedF p.1 t = .ok x) (h' : signedF p.2 t = .error e) : raisedG p t = .error e := by simp [raisedG, h, h']
theorem raised_ok {p : Int × Int} {t : Nat} {x y : Int × Int} (h : signedF p.1 t = .ok x) (h' : signedF p.2 t = .ok y) : raisedG p t = .ok ⟨x.1, y.2⟩ := by simp [raisedG, h, h']
set_option maxRecDepth 100000 in
set_option maxHeartbeats 1000000 in
theorem raised_any (lo hi : Int) (t : Nat) (w : World) (h1 : M lo) (h2 : M hi) (ht : t ≤ 100) :
    Calls Tryd.prog 147 #[.agg #[.int .i64 lo, .int .i64 hi], .int .i64 t] w (RetX spR (raisedF ⟨lo, hi⟩ t) w) := by
  have Hap := hid (fun W => apart_any lo hi W h1 h2)
  obtain ⟨⟨a1, a2⟩, ⟨a3, a4⟩⟩ := apart_bd ⟨lo, hi⟩ h1 h2
  obtain ⟨_, _⟩ := h1; obtain ⟨_, _⟩ := h2
  by_cases hp : t % 2 = 0
  · have hd : ((t : Int) % 2 == 0) = true := by simp; omega
    have hr : raisedF ⟨lo, hi⟩ t = raisedG (apartF ⟨lo, hi⟩) t := by simp [raisedF, hp]
    rw [hr]
    generalize apartF ⟨lo, hi⟩ = ap at *
    have Hs1 := hid (fun W => signed_any ap.1 t W a1 a2 ht)
    have Hs2 := hid (fun W => signed_any ap.2 t W a3 a4 ht)
    clear hp hr
    go_enter Tryd.func147, Tryd.ntmps147
    go_wp2_with fail
    go_quiet (fail)
    go_wp2_with (first
                        | ((go_at_call 162; refine (Hap.out _).mono ?_; rintro e w1 ⟨x, hx, rfl, hb1⟩; subst hx) <;> (obtain ⟨hc1, hf1⟩ := bcell hb1; obtain ⟨_, _⟩ : w.heap.size < w1.heap.size ∧ w.heap.size + 1 < w1.heap.size := (by have hle := Up.le hb1; first | omega | (simp at hle; omega) | (simp at hle; done))))
                        | ((go_at_call 163; (with_reducible refine (Hs1.out _).mono ?_); rintro e w2 ⟨(n1|s), hx, rfl, hb2⟩) <;> (obtain ⟨hc2, hf2⟩ := bcell hb2; obtain ⟨_, _⟩ : w.heap.size < w2.heap.size ∧ w.heap.size + 1 < w2.heap.size := (by have hle := Up.le hb2; first | omega | (simp at hle; omega) | (simp at hle; done))))
                        | ((go_at_call 163; (with_reducible refine (Hs2.out _).mono ?_); rintro e w3 ⟨(n2|s2), hx2, rfl, hb3⟩) <;> (obtain ⟨hc3, hf3⟩ := bcell hb3; obtain ⟨_, _⟩ : w.heap.size < w3.heap.size ∧ w.heap.size + 1 < w3.heap.size := (by have hle := Up.le hb3; first | omega | (simp at hle; omega) | (simp at hle; done)))))
    all_goals
      (refine bodyPost_res rfl ?_; simp only [results, Tryd.results147]; go_simp; refine resPost_ok ?_)
      first
        | refine RetX.mk (.ok ⟨s.1, s2.2⟩) ?_ ?_ rfl
        | refine RetX.mk (.error n2) ?_ ?_ rfl
        | refine RetX.mk (.error n1) ?_ ?_ rfl
      · (repeat (first | (with_reducible exact Up.refl _) | (with_reducible assumption) | (with_reducible refine Up.alloc ?_ _) | (with_reducible refine Up.drew ?_) | ((with_reducible refine Up.set ?_ ?_ _); rotate_left; focus (first | omega | (simp; done) | (simp; omega))) | (with_reducible refine Up.drewN ?_ _) | (with_reducible refine Up.call ?_ (by with_reducible assumption))))
      · first | exact raised_bad1 hx | exact raised_bad2 hx hx2 | exact raised_ok hx hx2
  · have hd : ((t : Int) % 2 == 0) = false := by simp; omega
    have hr : raisedF ⟨lo, hi⟩ t = raisedG (lo, hi) t := by simp [raisedF, hp]
    rw [hr]
    have Hs1 := hid (fun W => signed_any lo t W (by omega) (by omega) ht)
    have Hs2 := hid (fun W => signed_any hi t W (by omega) (by omega) ht)
    clear hp hr
    go_enter Tryd.func147, Tryd.ntmps147
    go_wp2_with fail
    go_quiet (fail)
    go_wp2_with (first
                        | ((go_at_call 163; (with_reducible refine (Hs1.out _).mono ?_); rintro e w2 ⟨(n1|s), hx, rfl, hb2⟩) <;> (obtain ⟨hc2, hf2⟩ := bcell hb2; obtain ⟨_, _⟩ : w.heap.size < w2.heap.size ∧ w.heap.size + 1 < w2.heap.size := (by have hle := Up.le hb2; first | omega | (simp at hle; omega) | (simp at hle; done))))
                        | ((go_at_call 163; (with_reducible refine (Hs2.out _).mono ?_); rintro e w3 ⟨(n2|s2), hx2, rfl, hb3⟩) <;> (obtain ⟨hc3, hf3⟩ := bcell hb3; obtain ⟨_, _⟩ : w.heap.size < w3.heap.size ∧ w.heap.size + 1 < w3.heap.size := (by have hle := Up.le hb3; first | omega | (simp at hle; omega) | (simp at hle; done)))))
    all_goals
      (refine bodyPost_res rfl ?_; simp only [results, Tryd.results147]; go_simp; refine resPost_ok ?_)
      first
        | refine RetX.mk (.ok ⟨s.1, s2.2⟩) ?_ ?_ rfl
        | refine RetX.mk (.error n2) ?_ ?_ rfl
        | refine RetX.mk (.error n1) ?_ ?_ rfl
      · (repeat (first | (with_reducible exact Up.refl _) | (with_reducible assumption) | (with_reducible refine Up.alloc ?_ _) | (with_reducible refine Up.drew ?_) | ((with_reducible refine Up.set ?_ ?_ _); rotate_left; focus (first | omega | (simp; done) | (simp; omega))) | (with_reducible refine Up.drewN ?_ _) | (with_reducible refine Up.call ?_ (by with_reducible assumption))))
      · first | exact raised_bad1 hx | exact raised_bad2 hx hx2 | exact raised_ok hx hx2
theorem power_bad {a : Sp} {n : Int} {e : Nat} (h : checkF a = some e) : powerF a n = .error e := by simp [powerF, h]
end Go.Proofs.YtafhcppigpjcpaaDoor
