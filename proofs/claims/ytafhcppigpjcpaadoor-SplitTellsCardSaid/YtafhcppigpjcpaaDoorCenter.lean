/- The walks of poly.Derive and of package center. -/
import Derived.Test.YtafhcppigpjcpaaDoorPolyd
set_option linter.unusedVariables false
set_option linter.unusedSimpArgs false
namespace Go.Proofs.YtafhcppigpjcpaaDoor
open Go.RowKit

theorem ilR_error {w : World} {n : Nat} {v : Value} (h : ilR w (.error n) v) : v = .tuple #[.slice none 0 0, .iface 99 (.int .i64 n)] := h
theorem ilR_ok {w : World} {l : List Int} {v : Value} (h : ilR w (.ok l) v) : ∃ A c, v = .tuple #[.slice A l.length c, .nilIface] ∧ RdI w A l ∧ l.length ≤ c := h
theorem ilR_up {w w' : World} {r : Except Nat (List Int)} {v : Value} (h : ilR w r v) (hu : Up w w') : ilR w' r v := by
  cases r with
  | error n => exact h
  | ok l =>
    obtain ⟨A, c, rfl, hr, hc⟩ := h
    exact ⟨A, c, rfl, RdI.up hr hu, hc⟩
theorem pcheck_none {p : List Int} (h : pcheckF p = none) : 0 < p.length ∧ p.length ≤ 5 ∧ (∀ n ∈ p, M n) := by
  unfold pcheckF at h
  split at h
  · cases h
  · split at h
    · cases h
    · split at h
      · exact ⟨by omega, by omega, by assumption⟩
      · cases h
theorem derive_any (A : Option Addr) (p : List Int) (c : Nat) (w : World) (hcap : p.length ≤ c) (hr : RdI w A p) :
    Calls Tryd.prog 58 #[.slice A p.length c] w (RetR ilR (deriveF p) w) := by
  have Hr := hid hr; clear hr
  cases ha : pcheckF p with
  | some n =>
    have hrr : deriveF p = .error n := by simp [deriveF, orErr, ha]
    rw [hrr]
    have Ha := hid ha; clear ha hrr
    go_enter Tryd.func58, Tryd.ntmps58
    go_wp2_with ((go_at_call 44; refine (pcheck_any _ _ _ _ (Hr.out.up (by (repeat (first | (with_reducible exact Up.refl _) | (with_reducible assumption) | (with_reducible refine Up.alloc ?_ _) | (with_reducible refine Up.drew ?_) | ((with_reducible refine Up.set ?_ ?_ _); rotate_left; focus (first | omega | (simp; done) | (simp; omega))) | (with_reducible refine Up.drewN ?_ _) | (with_reducible refine Up.call ?_ (by with_reducible assumption))))))).mono ?_; rintro e w1 ⟨x, hx, rfl, hb1⟩; rw [Ha.out] at hx; subst hx) <;> (obtain ⟨hc1, hf1⟩ := bcell hb1))
    all_goals
      go_ret2
      refine RetR.mk (.error n : Except Nat (List Int)) ?_ rfl (rel := ilR) rfl
      (repeat (first | (with_reducible exact Up.refl _) | (with_reducible assumption) | (with_reducible refine Up.alloc ?_ _) | (with_reducible refine Up.drew ?_) | ((with_reducible refine Up.set ?_ ?_ _); rotate_left; focus (first | omega | (simp; done) | (simp; omega))) | (with_reducible refine Up.drewN ?_ _) | (with_reducible refine Up.call ?_ (by with_reducible assumption))))
  | none =>
    have hrr : deriveF p = slopeF p := by simp [deriveF, orErr, ha]
    rw [hrr]
    obtain ⟨q1, q2, q3⟩ := pcheck_none ha
    have Hs := hid (fun W hW => slope_any A p c W q1 q2 hcap hW q3)
    have Ha := hid ha; clear ha hrr q3
    go_enter Tryd.func58, Tryd.ntmps58
    go_wp2_with (first
      | ((go_at_call 44; refine (pcheck_any _ _ _ _ (Hr.out.up (by (repeat (first | (with_reducible exact Up.refl _) | (with_reducible assumption) | (with_reducible refine Up.alloc ?_ _) | (with_reducible refine Up.drew ?_) | ((with_reducible refine Up.set ?_ ?_ _); rotate_left; focus (first | omega | (simp; done) | (simp; omega))) | (with_reducible refine Up.drewN ?_ _) | (with_reducible refine Up.call ?_ (by with_reducible assumption))))))).mono ?_; rintro e w1 ⟨x, hx, rfl, hb1⟩; rw [Ha.out] at hx; subst hx) <;> (obtain ⟨hc1, hf1⟩ := bcell hb1))
      | ((go_at_call 117; refine (Hs.out _ (Hr.out.up (by (repeat (first | (with_reducible exact Up.refl _) | (with_reducible assumption) | (with_reducible refine Up.alloc ?_ _) | (with_reducible refine Up.drew ?_) | ((with_reducible refine Up.set ?_ ?_ _); rotate_left; focus (first | omega | (simp; done) | (simp; omega))) | (with_reducible refine Up.drewN ?_ _) | (with_reducible refine Up.call ?_ (by with_reducible assumption))))))).mono ?_; rintro e w2 ⟨x, v, hx2, rfl, hv, hb2⟩; rcases x with n2 | l; obtain rfl := ilR_error hv; rotate_left; obtain ⟨A1, c1, rfl, hrd, hcp⟩ := ilR_ok hv) <;> (obtain ⟨hc2, hf2⟩ := bcell hb2)))
    all_goals
      go_ret2
      refine RetR.mk _ ?_ hx2 (rel := ilR) hv
      (repeat (first | (with_reducible exact Up.refl _) | (with_reducible assumption) | (with_reducible refine Up.alloc ?_ _) | (with_reducible refine Up.drew ?_) | ((with_reducible refine Up.set ?_ ?_ _); rotate_left; focus (first | omega | (simp; done) | (simp; omega))) | (with_reducible refine Up.drewN ?_ _) | (with_reducible refine Up.call ?_ (by with_reducible assumption))))

theorem slopeG_bd : ∀ (k : Nat) (p l : List Int), slopeG k p = .ok l → l.length = p.length ∧ ∀ n ∈ l, M n
  | _, [], l, h => by simp [slopeG] at h; subst h; simp
  | k, n :: p, l, h => by
    unfold slopeG at h
    split at h
    · rename_i hM
      split at h
      · cases h
      · rename_i l' hl
        injection h with h
        subst h
        obtain ⟨h1, h2⟩ := slopeG_bd (k + 1) p l' hl
        exact ⟨by simp [h1], fun x hx => by
          rcases List.mem_cons.1 hx with e | e
          · rw [e]; exact hM
          · exact h2 x e⟩
    · cases h
theorem slope_bd {p l : List Int} (h5 : p.length ≤ 5) (h0 : 0 < p.length) (h : slopeF p = .ok l) : 0 < l.length ∧ l.length ≤ 5 ∧ ∀ n ∈ l, M n := by
  unfold slopeF at h
  split at h
  · injection h with h
    subst h
    exact ⟨by simp, by simp, fun x hx => by simp at hx; subst hx; exact ⟨by decide, by decide⟩⟩
  · obtain ⟨h1, h2⟩ := slopeG_bd _ _ _ h
    rw [List.length_tail] at h1
    exact ⟨by omega, by omega, h2⟩
theorem steep_bad {p : List Int} {x : Sp} {e : Nat} (h : slopeF p = .error e) : steepF p x = .error e := by simp [steepF, h]
theorem steep_good {p d : List Int} {x : Sp} (h : slopeF p = .ok d) : steepF p x = nestedF x d := by simp [steepF, h]

theorem steep_any (A : Option Addr) (p : List Int) (c : Nat) (lo hi : Int) (w : World) (h0 : 0 < p.length) (h5 : p.length ≤ 5) (hcap : p.length ≤ c) (hr : RdI w A p) (hp : ∀ n ∈ p, M n) (hx : Rt ⟨lo, hi⟩) :
    Calls Tryd.prog 125 #[.slice A p.length c, .agg #[.int .i64 lo, .int .i64 hi]] w (RetX spR (steepF p ⟨lo, hi⟩) w) := by
  have Hr := hid hr; clear hr
  have Hs := hid (fun W hW => slope_any A p c W h0 h5 hcap hW hp)
  cases hs : slopeF p with
  | error n =>
    rw [steep_bad hs]
    have HS := hid hs; clear hs hp
    go_enter Tryd.func125, Tryd.ntmps125
    go_wp2_with ((go_at_call 117; refine (Hs.out _ (Hr.out.up (by (repeat (first | (with_reducible exact Up.refl _) | (with_reducible assumption) | (with_reducible refine Up.alloc ?_ _) | (with_reducible refine Up.drew ?_) | ((with_reducible refine Up.set ?_ ?_ _); rotate_left; focus (first | omega | (simp; done) | (simp; omega))) | (with_reducible refine Up.drewN ?_ _) | (with_reducible refine Up.call ?_ (by with_reducible assumption))))))).mono ?_; rintro e w1 ⟨x, v, hx1, rfl, hv, hb1⟩; rw [HS.out] at hx1; subst hx1; obtain rfl := ilR_error hv) <;> (obtain ⟨hc1, hf1⟩ := bcell hb1; obtain ⟨_, _⟩ : w.heap.size < w1.heap.size ∧ w.heap.size + 1 < w1.heap.size := (by have hle := Up.le hb1; first | omega | (simp at hle; omega) | (simp at hle; done))))
    all_goals
      (refine bodyPost_res rfl ?_; simp only [results, Tryd.results125]; go_simp; refine resPost_ok ?_)
      refine RetX.mk (.error n : Except Nat Sp) ?_ rfl rfl
      (repeat (first | (with_reducible exact Up.refl _) | (with_reducible assumption) | (with_reducible refine Up.alloc ?_ _) | (with_reducible refine Up.drew ?_) | ((with_reducible refine Up.set ?_ ?_ _); rotate_left; focus (first | omega | (simp; done) | (simp; omega))) | (with_reducible refine Up.drewN ?_ _) | (with_reducible refine Up.call ?_ (by with_reducible assumption))))
  | ok d =>
    rw [steep_good hs]
    obtain ⟨d1, d2, d3⟩ := slope_bd h5 h0 hs
    have Hn := hid (fun A c W (hc : d.length ≤ c) (hW : RdI W A d) => nested_any A d c lo hi W d1 d2 hc hW d3 hx)
    have HS := hid hs; clear hs hp d3
    go_enter Tryd.func125, Tryd.ntmps125
    go_wp2_with (first
                        | ((go_at_call 117; refine (Hs.out _ (Hr.out.up (by (repeat (first | (with_reducible exact Up.refl _) | (with_reducible assumption) | (with_reducible refine Up.alloc ?_ _) | (with_reducible refine Up.drew ?_) | ((with_reducible refine Up.set ?_ ?_ _); rotate_left; focus (first | omega | (simp; done) | (simp; omega))) | (with_reducible refine Up.drewN ?_ _) | (with_reducible refine Up.call ?_ (by with_reducible assumption))))))).mono ?_; rintro e w1 ⟨x, v, hx1, rfl, hv, hb1⟩; rw [HS.out] at hx1; subst hx1; obtain ⟨A1, c1, rfl, hrd, hcp⟩ := ilR_ok hv; have Hrd := hid hrd; clear hrd hv) <;> (obtain ⟨hc1, hf1⟩ := bcell hb1; obtain ⟨_, _⟩ : w.heap.size < w1.heap.size ∧ w.heap.size + 1 < w1.heap.size := (by have hle := Up.le hb1; first | omega | (simp at hle; omega) | (simp at hle; done))))
                        | ((go_at_call 114; refine (Hn.out _ _ _ hcp (Hrd.out.up (by (repeat (first | (with_reducible exact Up.refl _) | (with_reducible assumption) | (with_reducible refine Up.alloc ?_ _) | (with_reducible refine Up.drew ?_) | ((with_reducible refine Up.set ?_ ?_ _); rotate_left; focus (first | omega | (simp; done) | (simp; omega))) | (with_reducible refine Up.drewN ?_ _) | (with_reducible refine Up.call ?_ (by with_reducible assumption))))))).mono ?_; rintro e w2 ⟨(n2|s), hx2, rfl, hb2⟩) <;> (obtain ⟨hc2, hf2⟩ := bcell hb2; obtain ⟨_, _⟩ : w.heap.size < w2.heap.size ∧ w.heap.size + 1 < w2.heap.size := (by have hle := Up.le hb2; first | omega | (simp at hle; omega) | (simp at hle; done)))))
    all_goals
      (refine bodyPost_res rfl ?_; simp only [results, Tryd.results125]; go_simp; refine resPost_ok ?_)
      first
        | refine RetX.mk (.error n2) ?_ ?_ rfl
        | refine RetX.mk (.ok s) ?_ ?_ rfl
      · (repeat (first | (with_reducible exact Up.refl _) | (with_reducible assumption) | (with_reducible refine Up.alloc ?_ _) | (with_reducible refine Up.drew ?_) | ((with_reducible refine Up.set ?_ ?_ _); rotate_left; focus (first | omega | (simp; done) | (simp; omega))) | (with_reducible refine Up.drewN ?_ _) | (with_reducible refine Up.call ?_ (by with_reducible assumption))))
      · first | exact hx2 | rfl
end Go.Proofs.YtafhcppigpjcpaaDoor
