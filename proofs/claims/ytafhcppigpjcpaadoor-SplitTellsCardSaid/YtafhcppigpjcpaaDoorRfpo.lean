/- The walk of the reference's Power, odd times; and Power whole. -/
import Derived.Test.YtafhcppigpjcpaaDoorRfp
set_option linter.unusedVariables false
set_option linter.unusedSimpArgs false
namespace Go.Proofs.YtafhcppigpjcpaaDoor
open Go.RowKit

theorem sg_pos_err {n : Int} {t e : Nat} (h : 0 ≤ n) (h1 : againF n t = .error e) : signedF n t = .error e := (signed_pos h).trans h1
theorem sg_neg_err {n : Int} {t e : Nat} (h : n < 0) (h1 : againF (-n) t = .error e) : signedF n t = .error e := by rw [signed_neg h, h1]
theorem sg_pos_ok {n : Int} {t : Nat} {x : Int × Int} (h : 0 ≤ n) (h1 : againF n t = .ok x) : signedF n t = .ok x := (signed_pos h).trans h1
theorem sg_neg_ok {n : Int} {t : Nat} {x : Int × Int} (h : n < 0) (h1 : againF (-n) t = .ok x) : signedF n t = .ok (-x.2, -x.1) := by rw [signed_neg h, h1]
set_option maxRecDepth 100000 in
set_option maxHeartbeats 2000000 in
theorem rpower_pp (lo hi : Int) (t : Nat) (w : World) (h : Rt ⟨lo, hi⟩) (ht : t ≤ 100) (he : t % 2 = 1) (s1 : 0 ≤ lo) (s2 : 0 ≤ hi) :
    Calls Tryd.prog 115 #[.agg #[.int .i64 lo, .int .i64 hi], .int .i64 t] w (RetX rfR (raisedF ⟨lo, hi⟩ t) w) := by
  obtain ⟨⟨a1, a2⟩, ⟨a3, a4⟩, a5⟩ := h
  dsimp only at a1 a2 a3 a4 a5
  have hd : ((t : Int) % 2 == 0) = false := by simp; omega
  have hr : raisedF ⟨lo, hi⟩ t = raisedG (lo, hi) t := by simp [raisedF, he]
  rw [hr]
  have Hs1 := hid (fun W => ragain_any lo t W (by omega) (by omega) ht)
  have Hs2 := hid (fun W => ragain_any hi t W (by omega) (by omega) ht)
  cases h1 : againF lo t with
  | error n1 =>
    have H1 := hid h1
    have n4 := again_four t h1
    subst n4
    have Hr := hid (show raisedG (lo, hi) t = .error 4 from raised_bad1 (sg_pos_err s1 h1))
    clear h1 hr he
    go_enter Tryd.func115, Tryd.ntmps115
    go_wp2_with (first
      | ((go_at_call 146; (with_reducible refine (Hs1.out _).mono ?_); rintro e w1 ⟨x1, hx1, rfl, hb1⟩; rw [H1.out] at hx1; subst hx1) <;> (obtain ⟨hc1, hf1⟩ := bcell hb1; obtain ⟨_, _, _⟩ : w.heap.size < w1.heap.size ∧ w.heap.size + 1 < w1.heap.size ∧ w.heap.size + 1 + 1 < w1.heap.size := (by have hle := Up.le hb1; first | omega | (simp at hle; omega) | (simp at hle; done)))))
    all_goals
      (refine bodyPost_res rfl ?_; simp only [results, Tryd.results115]; go_simp; refine resPost_ok ?_)
      refine RetX.mk (.error 4) ?_ Hr.out rfl
      (repeat (first | (with_reducible exact Up.refl _) | (with_reducible assumption) | (with_reducible refine Up.alloc ?_ _) | (with_reducible refine Up.drew ?_) | ((with_reducible refine Up.set ?_ ?_ _); rotate_left; focus (first | omega | (simp; done) | (simp; omega))) | (with_reducible refine Up.drewN ?_ _) | (with_reducible refine Up.call ?_ (by with_reducible assumption))))
  | ok x =>
    have H1 := hid h1
    obtain ⟨b1, b2, b3⟩ := again_bd lo (by omega) t x.1 x.2 h1
    cases h2 : againF hi t with
    | error n2 =>
      have H2 := hid h2
      have n4 := again_four t h2
      subst n4
      have Hr := hid (show raisedG (lo, hi) t = .error 4 from raised_bad2 (sg_pos_ok s1 h1) (sg_pos_err s2 h2))
      clear h1 h2 hr he
      go_enter Tryd.func115, Tryd.ntmps115
      go_wp2_with (first
        | ((go_at_call 146; (with_reducible refine (Hs1.out _).mono ?_); rintro e w1 ⟨x1, hx1, rfl, hb1⟩; rw [H1.out] at hx1; subst hx1) <;> (obtain ⟨hc1, hf1⟩ := bcell hb1; obtain ⟨_, _, _⟩ : w.heap.size < w1.heap.size ∧ w.heap.size + 1 < w1.heap.size ∧ w.heap.size + 1 + 1 < w1.heap.size := (by have hle := Up.le hb1; first | omega | (simp at hle; omega) | (simp at hle; done))))
        | ((go_at_call 146; (with_reducible refine (Hs2.out _).mono ?_); rintro e w2 ⟨x2, hx2, rfl, hb2⟩; have _n := hb1; clear _n; rw [H2.out] at hx2; subst hx2) <;> (obtain ⟨hc2, hf2⟩ := bcell hb2; obtain ⟨_, _, _⟩ : w.heap.size < w2.heap.size ∧ w.heap.size + 1 < w2.heap.size ∧ w.heap.size + 1 + 1 < w2.heap.size := (by have hle := Up.le hb2; first | omega | (simp at hle; omega) | (simp at hle; done)))))
      all_goals
        (refine bodyPost_res rfl ?_; simp only [results, Tryd.results115]; go_simp; refine resPost_ok ?_)
        refine RetX.mk (.error 4) ?_ Hr.out rfl
        (repeat (first | (with_reducible exact Up.refl _) | (with_reducible assumption) | (with_reducible refine Up.alloc ?_ _) | (with_reducible refine Up.drew ?_) | ((with_reducible refine Up.set ?_ ?_ _); rotate_left; focus (first | omega | (simp; done) | (simp; omega))) | (with_reducible refine Up.drewN ?_ _) | (with_reducible refine Up.call ?_ (by with_reducible assumption))))
    | ok y =>
      have H2 := hid h2
      obtain ⟨c1, c2, c3⟩ := again_bd hi (by omega) t y.1 y.2 h2
      have Hr := hid (show raisedG (lo, hi) t = .ok ⟨x.1, y.2⟩ from raised_ok (sg_pos_ok s1 h1) (sg_pos_ok s2 h2))
      clear h1 h2 hr he
      go_enter Tryd.func115, Tryd.ntmps115
      go_wp2_with (first
        | ((go_at_call 146; (with_reducible refine (Hs1.out _).mono ?_); rintro e w1 ⟨x1, hx1, rfl, hb1⟩; rw [H1.out] at hx1; subst hx1) <;> (obtain ⟨hc1, hf1⟩ := bcell hb1; obtain ⟨_, _, _⟩ : w.heap.size < w1.heap.size ∧ w.heap.size + 1 < w1.heap.size ∧ w.heap.size + 1 + 1 < w1.heap.size := (by have hle := Up.le hb1; first | omega | (simp at hle; omega) | (simp at hle; done))))
        | ((go_at_call 146; (with_reducible refine (Hs2.out _).mono ?_); rintro e w2 ⟨x2, hx2, rfl, hb2⟩; have _n := hb1; clear _n; rw [H2.out] at hx2; subst hx2) <;> (obtain ⟨hc2, hf2⟩ := bcell hb2; obtain ⟨_, _, _⟩ : w.heap.size < w2.heap.size ∧ w.heap.size + 1 < w2.heap.size ∧ w.heap.size + 1 + 1 < w2.heap.size := (by have hle := Up.le hb2; first | omega | (simp at hle; omega) | (simp at hle; done)))))
      all_goals
        (refine bodyPost_res rfl ?_; simp only [results, Tryd.results115]; go_simp; refine resPost_ok ?_)
        refine RetX.mk (.ok ⟨x.1, y.2⟩) ?_ Hr.out rfl
        (repeat (first | (with_reducible exact Up.refl _) | (with_reducible assumption) | (with_reducible refine Up.alloc ?_ _) | (with_reducible refine Up.drew ?_) | ((with_reducible refine Up.set ?_ ?_ _); rotate_left; focus (first | omega | (simp; done) | (simp; omega))) | (with_reducible refine Up.drewN ?_ _) | (with_reducible refine Up.call ?_ (by with_reducible assumption))))
set_option maxRecDepth 100000 in
set_option maxHeartbeats 2000000 in
theorem rpower_np (lo hi : Int) (t : Nat) (w : World) (h : Rt ⟨lo, hi⟩) (ht : t ≤ 100) (he : t % 2 = 1) (s1 : lo < 0) (s2 : 0 ≤ hi) :
    Calls Tryd.prog 115 #[.agg #[.int .i64 lo, .int .i64 hi], .int .i64 t] w (RetX rfR (raisedF ⟨lo, hi⟩ t) w) := by
  obtain ⟨⟨a1, a2⟩, ⟨a3, a4⟩, a5⟩ := h
  dsimp only at a1 a2 a3 a4 a5
  have hd : ((t : Int) % 2 == 0) = false := by simp; omega
  have hr : raisedF ⟨lo, hi⟩ t = raisedG (lo, hi) t := by simp [raisedF, he]
  rw [hr]
  have Hs1 := hid (fun W => ragain_any (-lo) t W (by omega) (by omega) ht)
  have Hs2 := hid (fun W => ragain_any hi t W (by omega) (by omega) ht)
  cases h1 : againF (-lo) t with
  | error n1 =>
    have H1 := hid h1
    have n4 := again_four t h1
    subst n4
    have Hr := hid (show raisedG (lo, hi) t = .error 4 from raised_bad1 (sg_neg_err s1 h1))
    clear h1 hr he
    go_enter Tryd.func115, Tryd.ntmps115
    go_wp2_with (first
      | ((go_at_call 146; (with_reducible refine (Hs1.out _).mono ?_); rintro e w1 ⟨x1, hx1, rfl, hb1⟩; rw [H1.out] at hx1; subst hx1) <;> (obtain ⟨hc1, hf1⟩ := bcell hb1; obtain ⟨_, _, _⟩ : w.heap.size < w1.heap.size ∧ w.heap.size + 1 < w1.heap.size ∧ w.heap.size + 1 + 1 < w1.heap.size := (by have hle := Up.le hb1; first | omega | (simp at hle; omega) | (simp at hle; done)))))
    all_goals
      (refine bodyPost_res rfl ?_; simp only [results, Tryd.results115]; go_simp; refine resPost_ok ?_)
      refine RetX.mk (.error 4) ?_ Hr.out rfl
      (repeat (first | (with_reducible exact Up.refl _) | (with_reducible assumption) | (with_reducible refine Up.alloc ?_ _) | (with_reducible refine Up.drew ?_) | ((with_reducible refine Up.set ?_ ?_ _); rotate_left; focus (first | omega | (simp; done) | (simp; omega))) | (with_reducible refine Up.drewN ?_ _) | (with_reducible refine Up.call ?_ (by with_reducible assumption))))
  | ok x =>
    have H1 := hid h1
    obtain ⟨b1, b2, b3⟩ := again_bd (-lo) (by omega) t x.1 x.2 h1
    cases h2 : againF hi t with
    | error n2 =>
      have H2 := hid h2
      have n4 := again_four t h2
      subst n4
      have Hr := hid (show raisedG (lo, hi) t = .error 4 from raised_bad2 (sg_neg_ok s1 h1) (sg_pos_err s2 h2))
      clear h1 h2 hr he
      go_enter Tryd.func115, Tryd.ntmps115
      go_wp2_with (first
        | ((go_at_call 146; (with_reducible refine (Hs1.out _).mono ?_); rintro e w1 ⟨x1, hx1, rfl, hb1⟩; rw [H1.out] at hx1; subst hx1) <;> (obtain ⟨hc1, hf1⟩ := bcell hb1; obtain ⟨_, _, _⟩ : w.heap.size < w1.heap.size ∧ w.heap.size + 1 < w1.heap.size ∧ w.heap.size + 1 + 1 < w1.heap.size := (by have hle := Up.le hb1; first | omega | (simp at hle; omega) | (simp at hle; done))))
        | ((go_at_call 146; (with_reducible refine (Hs2.out _).mono ?_); rintro e w2 ⟨x2, hx2, rfl, hb2⟩; have _n := hb1; clear _n; rw [H2.out] at hx2; subst hx2) <;> (obtain ⟨hc2, hf2⟩ := bcell hb2; obtain ⟨_, _, _⟩ : w.heap.size < w2.heap.size ∧ w.heap.size + 1 < w2.heap.size ∧ w.heap.size + 1 + 1 < w2.heap.size := (by have hle := Up.le hb2; first | omega | (simp at hle; omega) | (simp at hle; done)))))
      all_goals
        (refine bodyPost_res rfl ?_; simp only [results, Tryd.results115]; go_simp; refine resPost_ok ?_)
        refine RetX.mk (.error 4) ?_ Hr.out rfl
        (repeat (first | (with_reducible exact Up.refl _) | (with_reducible assumption) | (with_reducible refine Up.alloc ?_ _) | (with_reducible refine Up.drew ?_) | ((with_reducible refine Up.set ?_ ?_ _); rotate_left; focus (first | omega | (simp; done) | (simp; omega))) | (with_reducible refine Up.drewN ?_ _) | (with_reducible refine Up.call ?_ (by with_reducible assumption))))
    | ok y =>
      have H2 := hid h2
      obtain ⟨c1, c2, c3⟩ := again_bd hi (by omega) t y.1 y.2 h2
      have Hr := hid (show raisedG (lo, hi) t = .ok ⟨-x.2, y.2⟩ from raised_ok (sg_neg_ok s1 h1) (sg_pos_ok s2 h2))
      clear h1 h2 hr he
      go_enter Tryd.func115, Tryd.ntmps115
      go_wp2_with (first
        | ((go_at_call 146; (with_reducible refine (Hs1.out _).mono ?_); rintro e w1 ⟨x1, hx1, rfl, hb1⟩; rw [H1.out] at hx1; subst hx1) <;> (obtain ⟨hc1, hf1⟩ := bcell hb1; obtain ⟨_, _, _⟩ : w.heap.size < w1.heap.size ∧ w.heap.size + 1 < w1.heap.size ∧ w.heap.size + 1 + 1 < w1.heap.size := (by have hle := Up.le hb1; first | omega | (simp at hle; omega) | (simp at hle; done))))
        | ((go_at_call 146; (with_reducible refine (Hs2.out _).mono ?_); rintro e w2 ⟨x2, hx2, rfl, hb2⟩; have _n := hb1; clear _n; rw [H2.out] at hx2; subst hx2) <;> (obtain ⟨hc2, hf2⟩ := bcell hb2; obtain ⟨_, _, _⟩ : w.heap.size < w2.heap.size ∧ w.heap.size + 1 < w2.heap.size ∧ w.heap.size + 1 + 1 < w2.heap.size := (by have hle := Up.le hb2; first | omega | (simp at hle; omega) | (simp at hle; done)))))
      all_goals
        (refine bodyPost_res rfl ?_; simp only [results, Tryd.results115]; go_simp; refine resPost_ok ?_)
        refine RetX.mk (.ok ⟨-x.2, y.2⟩) ?_ Hr.out rfl
        (repeat (first | (with_reducible exact Up.refl _) | (with_reducible assumption) | (with_reducible refine Up.alloc ?_ _) | (with_reducible refine Up.drew ?_) | ((with_reducible refine Up.set ?_ ?_ _); rotate_left; focus (first | omega | (simp; done) | (simp; omega))) | (with_reducible refine Up.drewN ?_ _) | (with_reducible refine Up.call ?_ (by with_reducible assumption))))
set_option maxRecDepth 100000 in
set_option maxHeartbeats 2000000 in
theorem rpower_nn (lo hi : Int) (t : Nat) (w : World) (h : Rt ⟨lo, hi⟩) (ht : t ≤ 100) (he : t % 2 = 1) (s1 : lo < 0) (s2 : hi < 0) :
    Calls Tryd.prog 115 #[.agg #[.int .i64 lo, .int .i64 hi], .int .i64 t] w (RetX rfR (raisedF ⟨lo, hi⟩ t) w) := by
  obtain ⟨⟨a1, a2⟩, ⟨a3, a4⟩, a5⟩ := h
  dsimp only at a1 a2 a3 a4 a5
  have hd : ((t : Int) % 2 == 0) = false := by simp; omega
  have hr : raisedF ⟨lo, hi⟩ t = raisedG (lo, hi) t := by simp [raisedF, he]
  rw [hr]
  have Hs1 := hid (fun W => ragain_any (-lo) t W (by omega) (by omega) ht)
  have Hs2 := hid (fun W => ragain_any (-hi) t W (by omega) (by omega) ht)
  cases h1 : againF (-lo) t with
  | error n1 =>
    have H1 := hid h1
    have n4 := again_four t h1
    subst n4
    have Hr := hid (show raisedG (lo, hi) t = .error 4 from raised_bad1 (sg_neg_err s1 h1))
    clear h1 hr he
    go_enter Tryd.func115, Tryd.ntmps115
    go_wp2_with (first
      | ((go_at_call 146; (with_reducible refine (Hs1.out _).mono ?_); rintro e w1 ⟨x1, hx1, rfl, hb1⟩; rw [H1.out] at hx1; subst hx1) <;> (obtain ⟨hc1, hf1⟩ := bcell hb1; obtain ⟨_, _, _⟩ : w.heap.size < w1.heap.size ∧ w.heap.size + 1 < w1.heap.size ∧ w.heap.size + 1 + 1 < w1.heap.size := (by have hle := Up.le hb1; first | omega | (simp at hle; omega) | (simp at hle; done)))))
    all_goals
      (refine bodyPost_res rfl ?_; simp only [results, Tryd.results115]; go_simp; refine resPost_ok ?_)
      refine RetX.mk (.error 4) ?_ Hr.out rfl
      (repeat (first | (with_reducible exact Up.refl _) | (with_reducible assumption) | (with_reducible refine Up.alloc ?_ _) | (with_reducible refine Up.drew ?_) | ((with_reducible refine Up.set ?_ ?_ _); rotate_left; focus (first | omega | (simp; done) | (simp; omega))) | (with_reducible refine Up.drewN ?_ _) | (with_reducible refine Up.call ?_ (by with_reducible assumption))))
  | ok x =>
    have H1 := hid h1
    obtain ⟨b1, b2, b3⟩ := again_bd (-lo) (by omega) t x.1 x.2 h1
    cases h2 : againF (-hi) t with
    | error n2 =>
      have H2 := hid h2
      have n4 := again_four t h2
      subst n4
      have Hr := hid (show raisedG (lo, hi) t = .error 4 from raised_bad2 (sg_neg_ok s1 h1) (sg_neg_err s2 h2))
      clear h1 h2 hr he
      go_enter Tryd.func115, Tryd.ntmps115
      go_wp2_with (first
        | ((go_at_call 146; (with_reducible refine (Hs1.out _).mono ?_); rintro e w1 ⟨x1, hx1, rfl, hb1⟩; rw [H1.out] at hx1; subst hx1) <;> (obtain ⟨hc1, hf1⟩ := bcell hb1; obtain ⟨_, _, _⟩ : w.heap.size < w1.heap.size ∧ w.heap.size + 1 < w1.heap.size ∧ w.heap.size + 1 + 1 < w1.heap.size := (by have hle := Up.le hb1; first | omega | (simp at hle; omega) | (simp at hle; done))))
        | ((go_at_call 146; (with_reducible refine (Hs2.out _).mono ?_); rintro e w2 ⟨x2, hx2, rfl, hb2⟩; have _n := hb1; clear _n; rw [H2.out] at hx2; subst hx2) <;> (obtain ⟨hc2, hf2⟩ := bcell hb2; obtain ⟨_, _, _⟩ : w.heap.size < w2.heap.size ∧ w.heap.size + 1 < w2.heap.size ∧ w.heap.size + 1 + 1 < w2.heap.size := (by have hle := Up.le hb2; first | omega | (simp at hle; omega) | (simp at hle; done)))))
      all_goals
        (refine bodyPost_res rfl ?_; simp only [results, Tryd.results115]; go_simp; refine resPost_ok ?_)
        refine RetX.mk (.error 4) ?_ Hr.out rfl
        (repeat (first | (with_reducible exact Up.refl _) | (with_reducible assumption) | (with_reducible refine Up.alloc ?_ _) | (with_reducible refine Up.drew ?_) | ((with_reducible refine Up.set ?_ ?_ _); rotate_left; focus (first | omega | (simp; done) | (simp; omega))) | (with_reducible refine Up.drewN ?_ _) | (with_reducible refine Up.call ?_ (by with_reducible assumption))))
    | ok y =>
      have H2 := hid h2
      obtain ⟨c1, c2, c3⟩ := again_bd (-hi) (by omega) t y.1 y.2 h2
      have Hr := hid (show raisedG (lo, hi) t = .ok ⟨-x.2, -y.1⟩ from raised_ok (sg_neg_ok s1 h1) (sg_neg_ok s2 h2))
      clear h1 h2 hr he
      go_enter Tryd.func115, Tryd.ntmps115
      go_wp2_with (first
        | ((go_at_call 146; (with_reducible refine (Hs1.out _).mono ?_); rintro e w1 ⟨x1, hx1, rfl, hb1⟩; rw [H1.out] at hx1; subst hx1) <;> (obtain ⟨hc1, hf1⟩ := bcell hb1; obtain ⟨_, _, _⟩ : w.heap.size < w1.heap.size ∧ w.heap.size + 1 < w1.heap.size ∧ w.heap.size + 1 + 1 < w1.heap.size := (by have hle := Up.le hb1; first | omega | (simp at hle; omega) | (simp at hle; done))))
        | ((go_at_call 146; (with_reducible refine (Hs2.out _).mono ?_); rintro e w2 ⟨x2, hx2, rfl, hb2⟩; have _n := hb1; clear _n; rw [H2.out] at hx2; subst hx2) <;> (obtain ⟨hc2, hf2⟩ := bcell hb2; obtain ⟨_, _, _⟩ : w.heap.size < w2.heap.size ∧ w.heap.size + 1 < w2.heap.size ∧ w.heap.size + 1 + 1 < w2.heap.size := (by have hle := Up.le hb2; first | omega | (simp at hle; omega) | (simp at hle; done)))))
      all_goals
        (refine bodyPost_res rfl ?_; simp only [results, Tryd.results115]; go_simp; refine resPost_ok ?_)
        refine RetX.mk (.ok ⟨-x.2, -y.1⟩) ?_ Hr.out rfl
        (repeat (first | (with_reducible exact Up.refl _) | (with_reducible assumption) | (with_reducible refine Up.alloc ?_ _) | (with_reducible refine Up.drew ?_) | ((with_reducible refine Up.set ?_ ?_ _); rotate_left; focus (first | omega | (simp; done) | (simp; omega))) | (with_reducible refine Up.drewN ?_ _) | (with_reducible refine Up.call ?_ (by with_reducible assumption))))
theorem rpower_any (lo hi : Int) (t : Nat) (w : World) (h : Rt ⟨lo, hi⟩) (ht : t ≤ 100) :
    Calls Tryd.prog 115 #[.agg #[.int .i64 lo, .int .i64 hi], .int .i64 t] w (RetX rfR (raisedF ⟨lo, hi⟩ t) w) := by
  rcases Nat.mod_two_eq_zero_or_one t with he | he
  · exact rpower_even lo hi t w h ht he
  · have hle := h.2.2
    dsimp only at hle
    rcases Int.lt_or_le lo 0 with s1 | s1
    · rcases Int.lt_or_le hi 0 with s2 | s2
      · exact rpower_nn lo hi t w h ht he s1 s2
      · exact rpower_np lo hi t w h ht he s1 s2
    · exact rpower_pp lo hi t w h ht he s1 (by omega)
end Go.Proofs.YtafhcppigpjcpaaDoor
