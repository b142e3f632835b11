/- The walk of newton.Run. -/
import Derived.Test.YtafhcppigpjcpaaDoorNewton
set_option linter.unusedVariables false
set_option linter.unusedSimpArgs false
namespace Go.Proofs.YtafhcppigpjcpaaDoor
open Go.RowKit

theorem nrun_bad {p : List Int} {x : Sp} {e : Nat} (h : nearerF p x = .error e) (n : Nat) : nrunG p (n + 1) x = .error e := by simp only [nrunG, h]
theorem nrun_same {p : List Int} {x : Sp} (h : nearerF p x = .ok x) (n : Nat) : nrunG p (n + 1) x = .ok x := by simp only [nrunG, h, if_true]
theorem nrun_on {p : List Int} {x s : Sp} (h : nearerF p x = .ok s) (hne : s ≠ x) (n : Nat) : nrunG p (n + 1) x = nrunG p n s := by simp only [nrunG, h, if_neg hne]
theorem nearer_rt {p : List Int} {x s : Sp} (hx : Rt x) (h : nearerF p x = .ok s) : Rt s := by
  unfold nearerF at h
  split at h
  · cases h
  · split at h
    · cases h
    · split at h
      · cases h
      · split at h
        · cases h
        · obtain ⟨q1, q2, q3, q4, q5⟩ := com_within h
          obtain ⟨⟨a1, a2⟩, ⟨a3, a4⟩, a5⟩ := hx
          exact ⟨⟨by omega, by omega⟩, ⟨by omega, by omega⟩, by omega⟩
set_option maxRecDepth 100000 in
set_option maxHeartbeats 4000000 in
theorem nrun_ok (A : Option Addr) (p : List Int) (c : Nat) (lo hi : Int) (t : Nat) (w : World) (hcap : p.length ≤ c) (hr : RdI w A p) (ht : t ≤ 20) (hb : pbothF p ⟨lo, hi⟩ = none) :
    Calls Tryd.prog 48 #[.slice A p.length c, .agg #[.int .i64 lo, .int .i64 hi], .int .i64 t] w (RetX spR (nrunG p t ⟨lo, hi⟩) w) := by
  have Hr := hid hr; clear hr
  have Hb := hid hb
  obtain ⟨h0, h5, hp, hx⟩ := pboth_none hb
  have Hn := hid (fun (y : Sp) W (hW : RdI W A p) (hy : Rt y) => (nearer_any A p c y.lo y.hi W h0 h5 hcap hW hp hy : Calls Tryd.prog 111 #[.slice A p.length c, .agg #[.int .i64 y.lo, .int .i64 y.hi]] W (RetX spR (nearerF p y) W)))
  have Hx := hid hx
  clear hb hp h0 h5 hx
  go_enter Tryd.func48, Tryd.ntmps48
  go_wp2_with (first
    | ((go_at_call 105; (with_reducible refine (pboth_any _ _ _ _ _ _ (Hr.out.up (by (repeat (first | (with_reducible exact Up.refl _) | (with_reducible assumption) | (with_reducible refine Up.alloc ?_ _) | (with_reducible refine Up.drew ?_) | ((with_reducible refine Up.set ?_ ?_ _); rotate_left; focus (first | omega | (simp; done) | (simp; omega))) | (with_reducible refine Up.drewN ?_ _) | (with_reducible refine Up.call ?_ (by with_reducible assumption))))))).mono ?_); rintro e w1 ⟨x1, hx1, rfl, hb1⟩ <;> (rw [Hb.out] at hx1; subst hx1)) <;> (have hle := Up.le hb1; (try simp only [World.size_alloc, World.size_setCell, World.size_drew, World.heap_drewN] at hle); (try (have _ : w.heap.size < w1.heap.size := (by omega); (try (apply fk hb1 (w.heap.size); (focus (go_simp; rfl)); (focus (intro o; go_simp)); intro z; (try clear f_0); have f_0 := z; clear z)); (try (apply ck hb1 (w.heap.size) 0; (focus (go_simp; rfl)); intro z; (try clear c_0_0); have c_0_0 := z; clear z; (try (apply ck hb1 (w.heap.size) 1; (focus (go_simp; rfl)); intro z; (try clear c_0_1); have c_0_1 := z; clear z)))); (try (have _ : w.heap.size + 1 < w1.heap.size := (by omega); (try (apply fk hb1 (w.heap.size + 1); (focus (go_simp; rfl)); (focus (intro o; go_simp)); intro z; (try clear f_1); have f_1 := z; clear z)); (try (apply ck hb1 (w.heap.size + 1) 0; (focus (go_simp; rfl)); intro z; (try clear c_1_0); have c_1_0 := z; clear z; (try (apply ck hb1 (w.heap.size + 1) 1; (focus (go_simp; rfl)); intro z; (try clear c_1_1); have c_1_1 := z; clear z)))); (try (have _ : w.heap.size + 1 + 1 < w1.heap.size := (by omega); (try (apply fk hb1 (w.heap.size + 1 + 1); (focus (go_simp; rfl)); (focus (intro o; go_simp)); intro z; (try clear f_2); have f_2 := z; clear z)); (try (apply ck hb1 (w.heap.size + 1 + 1) 0; (focus (go_simp; rfl)); intro z; (try clear c_2_0); have c_2_0 := z; clear z; (try (apply ck hb1 (w.heap.size + 1 + 1) 1; (focus (go_simp; rfl)); intro z; (try clear c_2_1); have c_2_1 := z; clear z)))); (try (have _ : w.heap.size + 1 + 1 + 1 < w1.heap.size := (by omega); (try (apply fk hb1 (w.heap.size + 1 + 1 + 1); (focus (go_simp; rfl)); (focus (intro o; go_simp)); intro z; (try clear f_3); have f_3 := z; clear z)); (try (apply ck hb1 (w.heap.size + 1 + 1 + 1) 0; (focus (go_simp; rfl)); intro z; (try clear c_3_0); have c_3_0 := z; clear z; (try (apply ck hb1 (w.heap.size + 1 + 1 + 1) 1; (focus (go_simp; rfl)); intro z; (try clear c_3_1); have c_3_1 := z; clear z)))); (try (have _ : w.heap.size + 1 + 1 + 1 + 1 < w1.heap.size := (by omega); (try (apply fk hb1 (w.heap.size + 1 + 1 + 1 + 1); (focus (go_simp; rfl)); (focus (intro o; go_simp)); intro z; (try clear f_4); have f_4 := z; clear z)); (try (apply ck hb1 (w.heap.size + 1 + 1 + 1 + 1) 0; (focus (go_simp; rfl)); intro z; (try clear c_4_0); have c_4_0 := z; clear z; (try (apply ck hb1 (w.heap.size + 1 + 1 + 1 + 1) 1; (focus (go_simp; rfl)); intro z; (try clear c_4_1); have c_4_1 := z; clear z)))))))))))))); clear hle; (try (apply old_keep (w0 := w) (w := w1); (focus ((repeat (first | (with_reducible exact Up.refl _) | (with_reducible assumption) | (with_reducible refine Up.alloc ?_ _) | (with_reducible refine Up.drew ?_) | ((with_reducible refine Up.set ?_ ?_ _); rotate_left; focus (first | omega | (simp; done) | (simp; omega))) | (with_reducible refine Up.drewN ?_ _) | (with_reducible refine Up.call ?_ (by with_reducible assumption)))))); intro y z; (try clear hUp); (try clear hOld); have hUp := y; have hOld := z; clear y z)))))
  go_loopw [27] (fun i wr => ∃ (k : Nat) (y : Sp), k ≤ t ∧ i = .int .i64 k ∧ Hid (nrunG p t ⟨lo, hi⟩ = nrunG p (t - k) y) ∧ Hid (Rt y) ∧ Up w wr ∧ Cf wr w.heap.size 0 (.int .i64 y.lo) ∧ Cf wr w.heap.size 1 (.int .i64 y.hi) ∧ Cf wr (w.heap.size + 1) 0 (.int .i64 0) ∧ Cf wr (w.heap.size + 1) 1 (.int .i64 0)) (fun i _ => t - (intOf i).toNat)
  case atStart =>
    refine ⟨0, ⟨lo, hi⟩, by omega, rfl, rfl, Hx, ?_, ⟨by go_simp, by go_simp⟩, ⟨by go_simp, by go_simp⟩, ⟨by go_simp, by go_simp⟩, ⟨by go_simp, by go_simp⟩⟩
    (repeat (first | (with_reducible exact Up.refl _) | (with_reducible assumption) | (with_reducible refine Up.alloc ?_ _) | (with_reducible refine Up.drew ?_) | ((with_reducible refine Up.set ?_ ?_ _); rotate_left; focus (first | omega | (simp; done) | (simp; omega))) | (with_reducible refine Up.drewN ?_ _) | (with_reducible refine Up.call ?_ (by with_reducible assumption))))
  case round =>
    obtain ⟨k, y, hk, rfl, H, Hy, hU, ⟨c0, g0⟩, ⟨c1, g1⟩, ⟨c2, g2⟩, ⟨c3, g3⟩⟩ := hrel
    have l0 := World.block_lt_of_cell? wr _ c0
    have l1 := World.block_lt_of_cell? wr _ c2
    dsimp only at l0 l1
    by_cases hlt : k < t
    · have hd : decide ((k : Int) < (t : Int)) = true := by simp; omega
      have hkt : (k : Int) < (t : Int) := by omega
      have hle := hU.le
      have Hyn := hid (fun W hW => Hn.out y W hW Hy.out)
      obtain ⟨m, hm⟩ : ∃ m, t - k = m + 1 := ⟨t - k - 1, by omega⟩
      cases hs : nearerF p y with
      | error e =>
        have Hs := hid hs
        have Hx2 := hid (show nrunG p t ⟨lo, hi⟩ = .error e by rw [H.out, hm, nrun_bad hs])
        clear hs hm
        go_wp2_with (first
          | ((go_at_call 111; refine (Hyn.out _ (Hr.out.up (by (repeat (first | (with_reducible exact Up.refl _) | (with_reducible assumption) | (with_reducible refine Up.alloc ?_ _) | (with_reducible refine Up.drew ?_) | ((with_reducible refine Up.set ?_ ?_ _); rotate_left; focus (first | omega | (simp; done) | (simp; omega))) | (with_reducible refine Up.drewN ?_ _) | (with_reducible refine Up.call ?_ (by with_reducible assumption))))))).mono ?_; rintro e w2 ⟨x2, hx2, rfl, hb2⟩); rw [Hs.out] at hx2; subst hx2; obtain ⟨hc2, hf2⟩ := bcell hb2; (have lb2 : w.heap.size < w2.heap.size := (by have := Up.le hb2; omega)); (have lb3 : w.heap.size + 1 < w2.heap.size := (by have := Up.le hb2; omega))))
        all_goals
          (refine bodyPost_res rfl ?_; simp only [results, Tryd.results48]; go_simp; refine resPost_ok ?_)
          refine RetX.mk (.error e) (by (repeat (first | (with_reducible exact Up.refl _) | (with_reducible assumption) | (with_reducible refine Up.alloc ?_ _) | (with_reducible refine Up.drew ?_) | ((with_reducible refine Up.set ?_ ?_ _); rotate_left; focus (first | omega | (simp; done) | (simp; omega))) | (with_reducible refine Up.drewN ?_ _) | (with_reducible refine Up.call ?_ (by with_reducible assumption))))) Hx2.out rfl
      | ok s =>
        have Hs := hid hs
        have Hsr := hid (nearer_rt Hy.out hs)
        by_cases hsy : s = y
        · subst hsy
          have Hx2 := hid (show nrunG p t ⟨lo, hi⟩ = .ok s by rw [H.out, hm, nrun_same hs])
          clear hs hm
          go_wp2_with (first
            | ((go_at_call 111; refine (Hyn.out _ (Hr.out.up (by (repeat (first | (with_reducible exact Up.refl _) | (with_reducible assumption) | (with_reducible refine Up.alloc ?_ _) | (with_reducible refine Up.drew ?_) | ((with_reducible refine Up.set ?_ ?_ _); rotate_left; focus (first | omega | (simp; done) | (simp; omega))) | (with_reducible refine Up.drewN ?_ _) | (with_reducible refine Up.call ?_ (by with_reducible assumption))))))).mono ?_; rintro e w2 ⟨x2, hx2, rfl, hb2⟩); rw [Hs.out] at hx2; subst hx2; obtain ⟨hc2, hf2⟩ := bcell hb2; (have lb2 : w.heap.size < w2.heap.size := (by have := Up.le hb2; omega)); (have lb3 : w.heap.size + 1 < w2.heap.size := (by have := Up.le hb2; omega))))
          all_goals
            (refine bodyPost_res rfl ?_; simp only [results, Tryd.results48]; go_simp; refine resPost_ok ?_)
            refine RetX.mk (.ok s) (by (repeat (first | (with_reducible exact Up.refl _) | (with_reducible assumption) | (with_reducible refine Up.alloc ?_ _) | (with_reducible refine Up.drew ?_) | ((with_reducible refine Up.set ?_ ?_ _); rotate_left; focus (first | omega | (simp; done) | (simp; omega))) | (with_reducible refine Up.drewN ?_ _) | (with_reducible refine Up.call ?_ (by with_reducible assumption))))) Hx2.out rfl
        · have Hx2 := hid (show nrunG p t ⟨lo, hi⟩ = nrunG p (t - (k + 1)) s by rw [H.out, hm, nrun_on hs hsy, show t - (k + 1) = m by omega])
          have hne : (∃ h : (s.lo == y.lo) = false, True) ∨ (s.lo = y.lo ∧ (s.hi == y.hi) = false) := by
            by_cases e1 : s.lo = y.lo
            · exact .inr ⟨e1, beq_eq_false_iff_ne.2 (fun e2 => hsy (Sp.ext' e1 e2))⟩
            · exact .inl ⟨beq_eq_false_iff_ne.2 e1, trivial⟩
          clear hs hm hsy
          rcases hne with ⟨d1, -⟩ | ⟨d1, d2⟩
          all_goals
            (try rw [← d1] at c0)
            (try rw [← d1] at g0)
            go_wp2_with (first
              | ((go_at_call 111; refine (Hyn.out _ (Hr.out.up (by (repeat (first | (with_reducible exact Up.refl _) | (with_reducible assumption) | (with_reducible refine Up.alloc ?_ _) | (with_reducible refine Up.drew ?_) | ((with_reducible refine Up.set ?_ ?_ _); rotate_left; focus (first | omega | (simp; done) | (simp; omega))) | (with_reducible refine Up.drewN ?_ _) | (with_reducible refine Up.call ?_ (by with_reducible assumption))))))).mono ?_; rintro e w2 ⟨x2, hx2, rfl, hb2⟩); rw [Hs.out] at hx2; subst hx2; obtain ⟨hc2, hf2⟩ := bcell hb2; (have lb2 : w.heap.size < w2.heap.size := (by have := Up.le hb2; omega)); (have lb3 : w.heap.size + 1 < w2.heap.size := (by have := Up.le hb2; omega))))
            all_goals
              go_roundw
              case rel =>
                refine ⟨k + 1, s, by omega, by go_num, Hx2.out, Hsr, by (repeat (first | (with_reducible exact Up.refl _) | (with_reducible assumption) | (with_reducible refine Up.alloc ?_ _) | (with_reducible refine Up.drew ?_) | ((with_reducible refine Up.set ?_ ?_ _); rotate_left; focus (first | omega | (simp; done) | (simp; omega))) | (with_reducible refine Up.drewN ?_ _) | (with_reducible refine Up.call ?_ (by with_reducible assumption)))), ⟨?_, ?_⟩, ⟨?_, ?_⟩, ⟨?_, ?_⟩, ⟨?_, ?_⟩⟩
                all_goals go_simp
              case measure => simp [intOf]; omega
    · obtain rfl : k = t := by omega
      have H2 := hid (show nrunG p k ⟨lo, hi⟩ = .ok y by rw [H.out, Nat.sub_self]; rfl)
      go_wp2
      (refine bodyPost_res rfl ?_; simp only [results, Tryd.results48]; go_simp; refine resPost_ok ?_)
      refine RetX.mk (.ok y) (by (repeat (first | (with_reducible exact Up.refl _) | (with_reducible assumption) | (with_reducible refine Up.alloc ?_ _) | (with_reducible refine Up.drew ?_) | ((with_reducible refine Up.set ?_ ?_ _); rotate_left; focus (first | omega | (simp; done) | (simp; omega))) | (with_reducible refine Up.drewN ?_ _) | (with_reducible refine Up.call ?_ (by with_reducible assumption))))) H2.out rfl
theorem nrun_any (A : Option Addr) (p : List Int) (c : Nat) (lo hi steps : Int) (w : World) (hcap : p.length ≤ c) (hr : RdI w A p) :
    Calls Tryd.prog 48 #[.slice A p.length c, .agg #[.int .i64 lo, .int .i64 hi], .int .i64 steps] w (RetX spR (nrunF p ⟨lo, hi⟩ steps) w) := by
  by_cases hs : steps < 0 ∨ 20 < steps
  · have Hx := hid (show nrunF p ⟨lo, hi⟩ steps = .error 1 by unfold nrunF; rw [if_pos hs])
    rcases hs with h | h
    all_goals
      go_enter Tryd.func48, Tryd.ntmps48
      go_wp2
      all_goals
        (refine bodyPost_res rfl ?_; simp only [results, Tryd.results48]; go_simp; refine resPost_ok ?_)
        refine RetX.mk (.error 1) ?_ Hx.out rfl
        (repeat (first | (with_reducible exact Up.refl _) | (with_reducible assumption) | (with_reducible refine Up.alloc ?_ _) | (with_reducible refine Up.drew ?_) | ((with_reducible refine Up.set ?_ ?_ _); rotate_left; focus (first | omega | (simp; done) | (simp; omega))) | (with_reducible refine Up.drewN ?_ _) | (with_reducible refine Up.call ?_ (by with_reducible assumption))))
  · obtain ⟨t, rfl⟩ : ∃ t : Nat, steps = t := ⟨steps.toNat, by omega⟩
    have h20 : t ≤ 20 := by omega
    have e1 : nrunF p ⟨lo, hi⟩ t = orErr (pbothF p ⟨lo, hi⟩) (nrunG p t ⟨lo, hi⟩) := by unfold nrunF; rw [if_neg hs]; rfl
    rw [e1]
    cases hb : pbothF p ⟨lo, hi⟩ with
    | none => exact nrun_ok A p c lo hi t w hcap hr h20 hb
    | some n =>
      have Hb := hid hb
      have Hr := hid hr
      have h0 : (0 : Int) ≤ (t : Int) := by omega
      have h2 : (t : Int) ≤ 20 := by omega
      clear hr hs e1 hb
      go_enter Tryd.func48, Tryd.ntmps48
      go_wp2_with (first
        | ((go_at_call 105; (with_reducible refine (pboth_any _ _ _ _ _ _ (Hr.out.up (by (repeat (first | (with_reducible exact Up.refl _) | (with_reducible assumption) | (with_reducible refine Up.alloc ?_ _) | (with_reducible refine Up.drew ?_) | ((with_reducible refine Up.set ?_ ?_ _); rotate_left; focus (first | omega | (simp; done) | (simp; omega))) | (with_reducible refine Up.drewN ?_ _) | (with_reducible refine Up.call ?_ (by with_reducible assumption))))))).mono ?_); rintro e w1 ⟨x1, hx1, rfl, hb1⟩ <;> (rw [Hb.out] at hx1; subst hx1)) <;> (have hle := Up.le hb1; (try simp only [World.size_alloc, World.size_setCell, World.size_drew, World.heap_drewN] at hle); (try (have _ : w.heap.size < w1.heap.size := (by omega); (try (apply fk hb1 (w.heap.size); (focus (go_simp; rfl)); (focus (intro o; go_simp)); intro z; (try clear f_0); have f_0 := z; clear z)); (try (apply ck hb1 (w.heap.size) 0; (focus (go_simp; rfl)); intro z; (try clear c_0_0); have c_0_0 := z; clear z; (try (apply ck hb1 (w.heap.size) 1; (focus (go_simp; rfl)); intro z; (try clear c_0_1); have c_0_1 := z; clear z)))); (try (have _ : w.heap.size + 1 < w1.heap.size := (by omega); (try (apply fk hb1 (w.heap.size + 1); (focus (go_simp; rfl)); (focus (intro o; go_simp)); intro z; (try clear f_1); have f_1 := z; clear z)); (try (apply ck hb1 (w.heap.size + 1) 0; (focus (go_simp; rfl)); intro z; (try clear c_1_0); have c_1_0 := z; clear z; (try (apply ck hb1 (w.heap.size + 1) 1; (focus (go_simp; rfl)); intro z; (try clear c_1_1); have c_1_1 := z; clear z)))); (try (have _ : w.heap.size + 1 + 1 < w1.heap.size := (by omega); (try (apply fk hb1 (w.heap.size + 1 + 1); (focus (go_simp; rfl)); (focus (intro o; go_simp)); intro z; (try clear f_2); have f_2 := z; clear z)); (try (apply ck hb1 (w.heap.size + 1 + 1) 0; (focus (go_simp; rfl)); intro z; (try clear c_2_0); have c_2_0 := z; clear z; (try (apply ck hb1 (w.heap.size + 1 + 1) 1; (focus (go_simp; rfl)); intro z; (try clear c_2_1); have c_2_1 := z; clear z)))); (try (have _ : w.heap.size + 1 + 1 + 1 < w1.heap.size := (by omega); (try (apply fk hb1 (w.heap.size + 1 + 1 + 1); (focus (go_simp; rfl)); (focus (intro o; go_simp)); intro z; (try clear f_3); have f_3 := z; clear z)); (try (apply ck hb1 (w.heap.size + 1 + 1 + 1) 0; (focus (go_simp; rfl)); intro z; (try clear c_3_0); have c_3_0 := z; clear z; (try (apply ck hb1 (w.heap.size + 1 + 1 + 1) 1; (focus (go_simp; rfl)); intro z; (try clear c_3_1); have c_3_1 := z; clear z)))); (try (have _ : w.heap.size + 1 + 1 + 1 + 1 < w1.heap.size := (by omega); (try (apply fk hb1 (w.heap.size + 1 + 1 + 1 + 1); (focus (go_simp; rfl)); (focus (intro o; go_simp)); intro z; (try clear f_4); have f_4 := z; clear z)); (try (apply ck hb1 (w.heap.size + 1 + 1 + 1 + 1) 0; (focus (go_simp; rfl)); intro z; (try clear c_4_0); have c_4_0 := z; clear z; (try (apply ck hb1 (w.heap.size + 1 + 1 + 1 + 1) 1; (focus (go_simp; rfl)); intro z; (try clear c_4_1); have c_4_1 := z; clear z)))))))))))))); clear hle; (try (apply old_keep (w0 := w) (w := w1); (focus ((repeat (first | (with_reducible exact Up.refl _) | (with_reducible assumption) | (with_reducible refine Up.alloc ?_ _) | (with_reducible refine Up.drew ?_) | ((with_reducible refine Up.set ?_ ?_ _); rotate_left; focus (first | omega | (simp; done) | (simp; omega))) | (with_reducible refine Up.drewN ?_ _) | (with_reducible refine Up.call ?_ (by with_reducible assumption)))))); intro y z; (try clear hUp); (try clear hOld); have hUp := y; have hOld := z; clear y z)))))
      all_goals
        (refine bodyPost_res rfl ?_; simp only [results, Tryd.results48]; go_simp; refine resPost_ok ?_)
        refine RetX.mk (.error n : Except Nat Sp) ?_ rfl rfl
        (repeat (first | (with_reducible exact Up.refl _) | (with_reducible assumption) | (with_reducible refine Up.alloc ?_ _) | (with_reducible refine Up.drew ?_) | ((with_reducible refine Up.set ?_ ?_ _); rotate_left; focus (first | omega | (simp; done) | (simp; omega))) | (with_reducible refine Up.drewN ?_ _) | (with_reducible refine Up.call ?_ (by with_reducible assumption))))
end Go.Proofs.YtafhcppigpjcpaaDoor
