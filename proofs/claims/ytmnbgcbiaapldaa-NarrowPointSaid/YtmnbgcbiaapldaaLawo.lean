/- NarrowPoint: of two that are known the third one is. -/
import Derived.Test.YtmnbgcbiaapldaaNarrowb
import Derived.Test.YtmnbgcbiaapldaaLawi
import Derived.Test.YtmnbgcbiaapldaaRowb
import Derived.Test.YtmnbgcbiaapldaaFacts
set_option linter.unusedVariables false
set_option linter.unusedSimpArgs false
namespace Go.Proofs.Ytmnbgcbiaapldaa
open Go.ChangeShapes Go.WideShapes Go.ChangeAt Go.RowKit Go.Joins Go.Deep

theorem com_alone {n : Int} : comF ⟨n, n⟩ ⟨n, n⟩ = .ok ⟨n, n⟩ := by
  unfold comF
  rw [if_neg (by simp)]
  simp
theorem com_point {z : Sp} {n : Int} (h1 : z.lo ≤ n) (h2 : n ≤ z.hi) : comF z ⟨n, n⟩ = .ok ⟨n, n⟩ := by
  unfold comF
  rw [if_neg (by dsimp only; omega)]
  congr 1
  apply Sp.ext' <;> dsimp only <;> omega
theorem rest_point {a b : Int} (h : M a) : restF ⟨a + b, a + b⟩ ⟨b, b⟩ = .ok ⟨a, a⟩ := by
  unfold restF
  dsimp only
  rw [show a + b - b = a by omega]
  exact fits_M2 ⟨h, h⟩
theorem nsum_back {a b : Int} (ha : M a) (hb : M b) : otherF restF (fun _ => true) ⟨a, a⟩ ⟨a + b, a + b⟩ ⟨b, b⟩ = .ok ⟨a, a⟩ ∧ otherF restF (fun _ => true) ⟨b, b⟩ ⟨a + b, a + b⟩ ⟨a, a⟩ = .ok ⟨b, b⟩ := by
  unfold otherF keptF
  constructor
  · rw [if_pos rfl, rest_point ha]
    exact com_alone
  · rw [if_pos rfl, Int.add_comm a b, rest_point hb]
    exact com_alone
theorem point_ok {a b : Int} {z : Sp} {r : Sp × Sp × Sp} (h : nsumF ⟨a, a⟩ ⟨b, b⟩ z = .ok r) : r = (⟨a, a⟩, ⟨b, b⟩, ⟨a + b, a + b⟩) ∧ M a ∧ M b ∧ M (a + b) := by
  unfold nsumF allF at h
  split at h
  · cases h
  · rename_i hc
    obtain ⟨ra, rb, rz⟩ := check3_none hc
    have ha : M a := ra.1
    have hb : M b := rb.1
    cases h1 : sumF ⟨a, a⟩ ⟨b, b⟩ with
    | error e => rw [h1] at h; cases h
    | ok m =>
      have hm : m = ⟨a + b, a + b⟩ ∧ M (a + b) := by
        unfold sumF at h1
        obtain ⟨e, k, -⟩ := fits_ok h1
        exact ⟨e, k⟩
      obtain ⟨rfl, hab⟩ := hm
      rw [h1] at h
      unfold keptF at h
      dsimp only at h
      cases h2 : comF z ⟨a + b, a + b⟩ with
      | error e => rw [h2] at h; cases h
      | ok s =>
        have hs : s = ⟨a + b, a + b⟩ := by
          obtain ⟨k1, k2, k3, k4, k5⟩ := com_within h2
          dsimp only at k3 k4
          apply Sp.ext' <;> dsimp only <;> omega
        subst hs
        rw [h2] at h
        dsimp only at h
        rw [(nsum_back ha hb).1] at h
        dsimp only at h
        rw [(nsum_back ha hb).2] at h
        injection h with h
        exact ⟨h.symm, ha, hb, hab⟩
theorem point_bad {a b : Int} {z : Sp} {e : Nat} (h : nsumF ⟨a, a⟩ ⟨b, b⟩ z = .error e) (h1 : -500000000 ≤ a) (h2 : a ≤ 500000000) (h3 : -500000000 ≤ b) (h4 : b ≤ 500000000) (hz : checkF z = none) (k1 : z.lo ≤ a + b) (k2 : a + b ≤ z.hi) : False := by
  have ha : M a := by unfold M; omega
  have hb : M b := by unfold M; omega
  have hab : M (a + b) := by unfold M; omega
  unfold nsumF allF at h
  have hc : check3F ⟨a, a⟩ ⟨b, b⟩ z = none := by
    unfold check3F
    rw [checkF_none.2 ⟨ha, ha, Int.le_refl _⟩]
    dsimp only
    rw [checkF_none.2 ⟨hb, hb, Int.le_refl _⟩]
    exact hz
  rw [hc] at h
  dsimp only at h
  have hs : sumF ⟨a, a⟩ ⟨b, b⟩ = .ok ⟨a + b, a + b⟩ := by unfold sumF; exact fits_M2 ⟨hab, hab⟩
  rw [hs] at h
  unfold keptF at h
  dsimp only at h
  rw [com_point k1 k2] at h
  dsimp only at h
  rw [(nsum_back ha hb).1] at h
  dsimp only at h
  rw [(nsum_back ha hb).2] at h
  cases h

set_option maxRecDepth 100000 in
set_option maxHeartbeats 8000000 in
theorem narrowPoint_walk (a b lo hi : Int) (w : World) (ha : I64 a) (hb : I64 b) (_h : I64 lo ∧ I64 hi) :
    Calls Try.prog 5 #[.int .i64 a, .int .i64 b, .agg #[.int .i64 lo, .int .i64 hi]] w (LawEnd w) := by
  clear _h
  obtain ⟨i1, i2⟩ := ha
  obtain ⟨i3, i4⟩ := hb
  cases hs : nsumF ⟨a, a⟩ ⟨b, b⟩ ⟨lo, hi⟩ with
  | ok r =>
    obtain ⟨rfl, ⟨m1, m2⟩, ⟨m3, m4⟩, ⟨m5, m6⟩⟩ := point_ok hs
    have HS := hid hs
    clear hs i1 i2 i3 i4
    go_enter Try.func5, Try.ntmps5
    go_wp2_with (first
                  | ((go_at_call 40; (refine (nsum_any ⟨a, a⟩ ⟨b, b⟩ ⟨lo, hi⟩ _).mono ?_); rintro e w1 ⟨x1, hx1, rfl, hb1⟩ <;> (rw [HS.out] at hx1; subst hx1; have q := Up.le hb1; simp only [World.size_alloc] at q; have _ : w.heap.size < w1.heap.size + 1 := (by omega); have _ : w.heap.size < w1.heap.size + 1 + 1 := (by omega); have _ : w.heap.size ≠ w1.heap.size + 1 := (by omega); have _ : w.heap.size ≠ w1.heap.size + 1 + 1 := (by omega); clear q)) <;> (have hle := Up.le hb1; (try simp only [World.size_alloc, World.size_setCell, World.size_drew, World.heap_drewN] at hle); (try (have _ : w.heap.size < w1.heap.size := (by omega); (try (apply fk hb1 (w.heap.size); (focus (go_simp; rfl)); (focus (intro o; go_simp)); intro z; (try clear f_0); have f_0 := z; clear z)); (try (apply ck hb1 (w.heap.size) 0; (focus (go_simp; rfl)); intro z; (try clear c_0_0); have c_0_0 := z; clear z; (try (apply ck hb1 (w.heap.size) 1; (focus (go_simp; rfl)); intro z; (try clear c_0_1); have c_0_1 := z; clear z)))); (try (have _ : w.heap.size + 1 < w1.heap.size := (by omega); (try (apply fk hb1 (w.heap.size + 1); (focus (go_simp; rfl)); (focus (intro o; go_simp)); intro z; (try clear f_1); have f_1 := z; clear z)); (try (apply ck hb1 (w.heap.size + 1) 0; (focus (go_simp; rfl)); intro z; (try clear c_1_0); have c_1_0 := z; clear z; (try (apply ck hb1 (w.heap.size + 1) 1; (focus (go_simp; rfl)); intro z; (try clear c_1_1); have c_1_1 := z; clear z)))); (try (have _ : w.heap.size + 1 + 1 < w1.heap.size := (by omega); (try (apply fk hb1 (w.heap.size + 1 + 1); (focus (go_simp; rfl)); (focus (intro o; go_simp)); intro z; (try clear f_2); have f_2 := z; clear z)); (try (apply ck hb1 (w.heap.size + 1 + 1) 0; (focus (go_simp; rfl)); intro z; (try clear c_2_0); have c_2_0 := z; clear z; (try (apply ck hb1 (w.heap.size + 1 + 1) 1; (focus (go_simp; rfl)); intro z; (try clear c_2_1); have c_2_1 := z; clear z)))); (try (have _ : w.heap.size + 1 + 1 + 1 < w1.heap.size := (by omega); (try (apply fk hb1 (w.heap.size + 1 + 1 + 1); (focus (go_simp; rfl)); (focus (intro o; go_simp)); intro z; (try clear f_3); have f_3 := z; clear z)); (try (apply ck hb1 (w.heap.size + 1 + 1 + 1) 0; (focus (go_simp; rfl)); intro z; (try clear c_3_0); have c_3_0 := z; clear z; (try (apply ck hb1 (w.heap.size + 1 + 1 + 1) 1; (focus (go_simp; rfl)); intro z; (try clear c_3_1); have c_3_1 := z; clear z)))); (try (have _ : w.heap.size + 1 + 1 + 1 + 1 < w1.heap.size := (by omega); (try (apply fk hb1 (w.heap.size + 1 + 1 + 1 + 1); (focus (go_simp; rfl)); (focus (intro o; go_simp)); intro z; (try clear f_4); have f_4 := z; clear z)); (try (apply ck hb1 (w.heap.size + 1 + 1 + 1 + 1) 0; (focus (go_simp; rfl)); intro z; (try clear c_4_0); have c_4_0 := z; clear z; (try (apply ck hb1 (w.heap.size + 1 + 1 + 1 + 1) 1; (focus (go_simp; rfl)); intro z; (try clear c_4_1); have c_4_1 := z; clear z)))))))))))))); clear hle; (try (apply old_keep (w0 := w) (w := w1); (focus ((repeat (first | (with_reducible exact Up.refl _) | (with_reducible assumption) | (with_reducible refine Up.alloc ?_ _) | (with_reducible refine Up.drew ?_) | ((with_reducible refine Up.set ?_ ?_ _); rotate_left; focus (first | omega | (simp; done) | (simp; omega))) | (with_reducible refine Up.drewN ?_ _) | (with_reducible refine Up.call ?_ (by with_reducible assumption)))))); intro y z; (try clear hUp); (try clear hOld); have hUp := y; have hOld := z; clear y z)))))
    all_goals
      go_ret
      refine LawEnd.mk (by simp) ?_
      (repeat (first | (with_reducible exact Up.refl _) | (with_reducible assumption) | (with_reducible refine Up.alloc ?_ _) | (with_reducible refine Up.drew ?_) | ((with_reducible refine Up.set ?_ ?_ _); rotate_left; focus (first | omega | (simp; done) | (simp; omega))) | (with_reducible refine Up.drewN ?_ _) | (with_reducible refine Up.call ?_ (by with_reducible assumption))))
  | error e =>
    have HS := hid hs
    by_cases hsm : -500000000 ≤ a ∧ a ≤ 500000000 ∧ -500000000 ≤ b ∧ b ≤ 500000000
    · obtain ⟨s1, s2, s3, s4⟩ := hsm
      have e1 : decide (a < -500000000) = false := by simp; omega
      have e2 : decide (500000000 < a) = false := by simp; omega
      have e3 : decide (b < -500000000) = false := by simp; omega
      have e4 : decide (500000000 < b) = false := by simp; omega
      cases hc : checkF ⟨lo, hi⟩ with
      | some n =>
        have HC := hid hc
        clear hc hs
        by_cases q1 : a + b < lo
        all_goals
          by_cases q2 : hi < a + b
          all_goals
            first
              | have d1 : decide (a + b < lo) = true := decide_eq_true q1
              | have d1 : decide (a + b < lo) = false := decide_eq_false q1
            first
              | have d2 : decide (hi < a + b) = true := decide_eq_true q2
              | have d2 : decide (hi < a + b) = false := decide_eq_false q2
            clear q1 q2
            go_enter Try.func5, Try.ntmps5
            go_wp2_with (first
              | ((go_at_call 36; (with_reducible refine (check_any _ _ _).mono ?_); rintro e w2 ⟨x2, hx2, rfl, hb2⟩ <;> (rw [HC.out] at hx2; subst hx2)) <;> (have hle := Up.le hb2; (try simp only [World.size_alloc, World.size_setCell, World.size_drew, World.heap_drewN] at hle); (try (have _ : w.heap.size < w2.heap.size := (by omega); (try (apply fk hb2 (w.heap.size); (focus (go_simp; rfl)); (focus (intro o; go_simp)); intro z; (try clear f_0); have f_0 := z; clear z)); (try (apply ck hb2 (w.heap.size) 0; (focus (go_simp; rfl)); intro z; (try clear c_0_0); have c_0_0 := z; clear z; (try (apply ck hb2 (w.heap.size) 1; (focus (go_simp; rfl)); intro z; (try clear c_0_1); have c_0_1 := z; clear z)))); (try (have _ : w.heap.size + 1 < w2.heap.size := (by omega); (try (apply fk hb2 (w.heap.size + 1); (focus (go_simp; rfl)); (focus (intro o; go_simp)); intro z; (try clear f_1); have f_1 := z; clear z)); (try (apply ck hb2 (w.heap.size + 1) 0; (focus (go_simp; rfl)); intro z; (try clear c_1_0); have c_1_0 := z; clear z; (try (apply ck hb2 (w.heap.size + 1) 1; (focus (go_simp; rfl)); intro z; (try clear c_1_1); have c_1_1 := z; clear z)))); (try (have _ : w.heap.size + 1 + 1 < w2.heap.size := (by omega); (try (apply fk hb2 (w.heap.size + 1 + 1); (focus (go_simp; rfl)); (focus (intro o; go_simp)); intro z; (try clear f_2); have f_2 := z; clear z)); (try (apply ck hb2 (w.heap.size + 1 + 1) 0; (focus (go_simp; rfl)); intro z; (try clear c_2_0); have c_2_0 := z; clear z; (try (apply ck hb2 (w.heap.size + 1 + 1) 1; (focus (go_simp; rfl)); intro z; (try clear c_2_1); have c_2_1 := z; clear z)))); (try (have _ : w.heap.size + 1 + 1 + 1 < w2.heap.size := (by omega); (try (apply fk hb2 (w.heap.size + 1 + 1 + 1); (focus (go_simp; rfl)); (focus (intro o; go_simp)); intro z; (try clear f_3); have f_3 := z; clear z)); (try (apply ck hb2 (w.heap.size + 1 + 1 + 1) 0; (focus (go_simp; rfl)); intro z; (try clear c_3_0); have c_3_0 := z; clear z; (try (apply ck hb2 (w.heap.size + 1 + 1 + 1) 1; (focus (go_simp; rfl)); intro z; (try clear c_3_1); have c_3_1 := z; clear z)))); (try (have _ : w.heap.size + 1 + 1 + 1 + 1 < w2.heap.size := (by omega); (try (apply fk hb2 (w.heap.size + 1 + 1 + 1 + 1); (focus (go_simp; rfl)); (focus (intro o; go_simp)); intro z; (try clear f_4); have f_4 := z; clear z)); (try (apply ck hb2 (w.heap.size + 1 + 1 + 1 + 1) 0; (focus (go_simp; rfl)); intro z; (try clear c_4_0); have c_4_0 := z; clear z; (try (apply ck hb2 (w.heap.size + 1 + 1 + 1 + 1) 1; (focus (go_simp; rfl)); intro z; (try clear c_4_1); have c_4_1 := z; clear z)))))))))))))); (try (have _ : w1.heap.size < w2.heap.size := (by omega); (try (apply fk hb2 (w1.heap.size); (focus (go_simp; rfl)); (focus (intro o; go_simp)); intro z; (try clear f1_0); have f1_0 := z; clear z)); (try (apply ck hb2 (w1.heap.size) 0; (focus (go_simp; rfl)); intro z; (try clear c1_0_0); have c1_0_0 := z; clear z; (try (apply ck hb2 (w1.heap.size) 1; (focus (go_simp; rfl)); intro z; (try clear c1_0_1); have c1_0_1 := z; clear z)))); (try (have _ : w1.heap.size + 1 < w2.heap.size := (by omega); (try (apply fk hb2 (w1.heap.size + 1); (focus (go_simp; rfl)); (focus (intro o; go_simp)); intro z; (try clear f1_1); have f1_1 := z; clear z)); (try (apply ck hb2 (w1.heap.size + 1) 0; (focus (go_simp; rfl)); intro z; (try clear c1_1_0); have c1_1_0 := z; clear z; (try (apply ck hb2 (w1.heap.size + 1) 1; (focus (go_simp; rfl)); intro z; (try clear c1_1_1); have c1_1_1 := z; clear z)))))))); clear hle; (try (apply old_keep (w0 := w) (w := w2); (focus ((repeat (first | (with_reducible exact Up.refl _) | (with_reducible assumption) | (with_reducible refine Up.alloc ?_ _) | (with_reducible refine Up.drew ?_) | ((with_reducible refine Up.set ?_ ?_ _); rotate_left; focus (first | omega | (simp; done) | (simp; omega))) | (with_reducible refine Up.drewN ?_ _) | (with_reducible refine Up.call ?_ (by with_reducible assumption)))))); intro y z; (try clear hUp); (try clear hOld); have hUp := y; have hOld := z; clear y z))))
                  | ((go_at_call 40; (refine (nsum_any ⟨a, a⟩ ⟨b, b⟩ ⟨lo, hi⟩ _).mono ?_); rintro e w1 ⟨x1, hx1, rfl, hb1⟩ <;> (rw [HS.out] at hx1; subst hx1; have q := Up.le hb1; simp only [World.size_alloc] at q; have _ : w.heap.size < w1.heap.size + 1 := (by omega); have _ : w.heap.size < w1.heap.size + 1 + 1 := (by omega); have _ : w.heap.size ≠ w1.heap.size + 1 := (by omega); have _ : w.heap.size ≠ w1.heap.size + 1 + 1 := (by omega); clear q)) <;> (have hle := Up.le hb1; (try simp only [World.size_alloc, World.size_setCell, World.size_drew, World.heap_drewN] at hle); (try (have _ : w.heap.size < w1.heap.size := (by omega); (try (apply fk hb1 (w.heap.size); (focus (go_simp; rfl)); (focus (intro o; go_simp)); intro z; (try clear f_0); have f_0 := z; clear z)); (try (apply ck hb1 (w.heap.size) 0; (focus (go_simp; rfl)); intro z; (try clear c_0_0); have c_0_0 := z; clear z; (try (apply ck hb1 (w.heap.size) 1; (focus (go_simp; rfl)); intro z; (try clear c_0_1); have c_0_1 := z; clear z)))); (try (have _ : w.heap.size + 1 < w1.heap.size := (by omega); (try (apply fk hb1 (w.heap.size + 1); (focus (go_simp; rfl)); (focus (intro o; go_simp)); intro z; (try clear f_1); have f_1 := z; clear z)); (try (apply ck hb1 (w.heap.size + 1) 0; (focus (go_simp; rfl)); intro z; (try clear c_1_0); have c_1_0 := z; clear z; (try (apply ck hb1 (w.heap.size + 1) 1; (focus (go_simp; rfl)); intro z; (try clear c_1_1); have c_1_1 := z; clear z)))); (try (have _ : w.heap.size + 1 + 1 < w1.heap.size := (by omega); (try (apply fk hb1 (w.heap.size + 1 + 1); (focus (go_simp; rfl)); (focus (intro o; go_simp)); intro z; (try clear f_2); have f_2 := z; clear z)); (try (apply ck hb1 (w.heap.size + 1 + 1) 0; (focus (go_simp; rfl)); intro z; (try clear c_2_0); have c_2_0 := z; clear z; (try (apply ck hb1 (w.heap.size + 1 + 1) 1; (focus (go_simp; rfl)); intro z; (try clear c_2_1); have c_2_1 := z; clear z)))); (try (have _ : w.heap.size + 1 + 1 + 1 < w1.heap.size := (by omega); (try (apply fk hb1 (w.heap.size + 1 + 1 + 1); (focus (go_simp; rfl)); (focus (intro o; go_simp)); intro z; (try clear f_3); have f_3 := z; clear z)); (try (apply ck hb1 (w.heap.size + 1 + 1 + 1) 0; (focus (go_simp; rfl)); intro z; (try clear c_3_0); have c_3_0 := z; clear z; (try (apply ck hb1 (w.heap.size + 1 + 1 + 1) 1; (focus (go_simp; rfl)); intro z; (try clear c_3_1); have c_3_1 := z; clear z)))); (try (have _ : w.heap.size + 1 + 1 + 1 + 1 < w1.heap.size := (by omega); (try (apply fk hb1 (w.heap.size + 1 + 1 + 1 + 1); (focus (go_simp; rfl)); (focus (intro o; go_simp)); intro z; (try clear f_4); have f_4 := z; clear z)); (try (apply ck hb1 (w.heap.size + 1 + 1 + 1 + 1) 0; (focus (go_simp; rfl)); intro z; (try clear c_4_0); have c_4_0 := z; clear z; (try (apply ck hb1 (w.heap.size + 1 + 1 + 1 + 1) 1; (focus (go_simp; rfl)); intro z; (try clear c_4_1); have c_4_1 := z; clear z)))))))))))))); clear hle; (try (apply old_keep (w0 := w) (w := w1); (focus ((repeat (first | (with_reducible exact Up.refl _) | (with_reducible assumption) | (with_reducible refine Up.alloc ?_ _) | (with_reducible refine Up.drew ?_) | ((with_reducible refine Up.set ?_ ?_ _); rotate_left; focus (first | omega | (simp; done) | (simp; omega))) | (with_reducible refine Up.drewN ?_ _) | (with_reducible refine Up.call ?_ (by with_reducible assumption)))))); intro y z; (try clear hUp); (try clear hOld); have hUp := y; have hOld := z; clear y z)))))
            all_goals
              go_ret
              refine LawEnd.mk rfl ?_
              (repeat (first | (with_reducible exact Up.refl _) | (with_reducible assumption) | (with_reducible refine Up.alloc ?_ _) | (with_reducible refine Up.drew ?_) | ((with_reducible refine Up.set ?_ ?_ _); rotate_left; focus (first | omega | (simp; done) | (simp; omega))) | (with_reducible refine Up.drewN ?_ _) | (with_reducible refine Up.call ?_ (by with_reducible assumption))))
      | none =>
        have hb := hid (fun k1 k2 => point_bad hs s1 s2 s3 s4 hc k1 k2)
        clear hc hs
        have hor : (decide (a + b < lo) = true) ∨ (decide (a + b < lo) = false ∧ decide (hi < a + b) = true) ∨ (decide (a + b < lo) = false ∧ decide (hi < a + b) = false) := by
          by_cases q1 : a + b < lo <;> by_cases q2 : hi < a + b <;> simp only [q1, q2, decide_true, decide_false] <;> simp
        rcases hor with d1 | ⟨d1, d2⟩ | ⟨d1, d2⟩
        rotate_left 2
        · have q1 : ¬ (a + b < lo) := by simpa using d1
          have q2 : ¬ (hi < a + b) := by simpa using d2
          exact (hb.out (by dsimp only; omega) (by dsimp only; omega)).elim
        all_goals
          go_enter Try.func5, Try.ntmps5
          go_wp2_with (first
                            | ((go_at_call 40; (refine (nsum_any ⟨a, a⟩ ⟨b, b⟩ ⟨lo, hi⟩ _).mono ?_); rintro e w1 ⟨x1, hx1, rfl, hb1⟩ <;> (rw [HS.out] at hx1; subst hx1; have q := Up.le hb1; simp only [World.size_alloc] at q; have _ : w.heap.size < w1.heap.size + 1 := (by omega); have _ : w.heap.size < w1.heap.size + 1 + 1 := (by omega); have _ : w.heap.size ≠ w1.heap.size + 1 := (by omega); have _ : w.heap.size ≠ w1.heap.size + 1 + 1 := (by omega); clear q)) <;> (have hle := Up.le hb1; (try simp only [World.size_alloc, World.size_setCell, World.size_drew, World.heap_drewN] at hle); (try (have _ : w.heap.size < w1.heap.size := (by omega); (try (apply fk hb1 (w.heap.size); (focus (go_simp; rfl)); (focus (intro o; go_simp)); intro z; (try clear f_0); have f_0 := z; clear z)); (try (apply ck hb1 (w.heap.size) 0; (focus (go_simp; rfl)); intro z; (try clear c_0_0); have c_0_0 := z; clear z; (try (apply ck hb1 (w.heap.size) 1; (focus (go_simp; rfl)); intro z; (try clear c_0_1); have c_0_1 := z; clear z)))); (try (have _ : w.heap.size + 1 < w1.heap.size := (by omega); (try (apply fk hb1 (w.heap.size + 1); (focus (go_simp; rfl)); (focus (intro o; go_simp)); intro z; (try clear f_1); have f_1 := z; clear z)); (try (apply ck hb1 (w.heap.size + 1) 0; (focus (go_simp; rfl)); intro z; (try clear c_1_0); have c_1_0 := z; clear z; (try (apply ck hb1 (w.heap.size + 1) 1; (focus (go_simp; rfl)); intro z; (try clear c_1_1); have c_1_1 := z; clear z)))); (try (have _ : w.heap.size + 1 + 1 < w1.heap.size := (by omega); (try (apply fk hb1 (w.heap.size + 1 + 1); (focus (go_simp; rfl)); (focus (intro o; go_simp)); intro z; (try clear f_2); have f_2 := z; clear z)); (try (apply ck hb1 (w.heap.size + 1 + 1) 0; (focus (go_simp; rfl)); intro z; (try clear c_2_0); have c_2_0 := z; clear z; (try (apply ck hb1 (w.heap.size + 1 + 1) 1; (focus (go_simp; rfl)); intro z; (try clear c_2_1); have c_2_1 := z; clear z)))); (try (have _ : w.heap.size + 1 + 1 + 1 < w1.heap.size := (by omega); (try (apply fk hb1 (w.heap.size + 1 + 1 + 1); (focus (go_simp; rfl)); (focus (intro o; go_simp)); intro z; (try clear f_3); have f_3 := z; clear z)); (try (apply ck hb1 (w.heap.size + 1 + 1 + 1) 0; (focus (go_simp; rfl)); intro z; (try clear c_3_0); have c_3_0 := z; clear z; (try (apply ck hb1 (w.heap.size + 1 + 1 + 1) 1; (focus (go_simp; rfl)); intro z; (try clear c_3_1); have c_3_1 := z; clear z)))); (try (have _ : w.heap.size + 1 + 1 + 1 + 1 < w1.heap.size := (by omega); (try (apply fk hb1 (w.heap.size + 1 + 1 + 1 + 1); (focus (go_simp; rfl)); (focus (intro o; go_simp)); intro z; (try clear f_4); have f_4 := z; clear z)); (try (apply ck hb1 (w.heap.size + 1 + 1 + 1 + 1) 0; (focus (go_simp; rfl)); intro z; (try clear c_4_0); have c_4_0 := z; clear z; (try (apply ck hb1 (w.heap.size + 1 + 1 + 1 + 1) 1; (focus (go_simp; rfl)); intro z; (try clear c_4_1); have c_4_1 := z; clear z)))))))))))))); clear hle; (try (apply old_keep (w0 := w) (w := w1); (focus ((repeat (first | (with_reducible exact Up.refl _) | (with_reducible assumption) | (with_reducible refine Up.alloc ?_ _) | (with_reducible refine Up.drew ?_) | ((with_reducible refine Up.set ?_ ?_ _); rotate_left; focus (first | omega | (simp; done) | (simp; omega))) | (with_reducible refine Up.drewN ?_ _) | (with_reducible refine Up.call ?_ (by with_reducible assumption)))))); intro y z; (try clear hUp); (try clear hOld); have hUp := y; have hOld := z; clear y z)))))
          all_goals
            go_ret
            refine LawEnd.mk rfl ?_
            (repeat (first | (with_reducible exact Up.refl _) | (with_reducible assumption) | (with_reducible refine Up.alloc ?_ _) | (with_reducible refine Up.drew ?_) | ((with_reducible refine Up.set ?_ ?_ _); rotate_left; focus (first | omega | (simp; done) | (simp; omega))) | (with_reducible refine Up.drewN ?_ _) | (with_reducible refine Up.call ?_ (by with_reducible assumption))))
    · have hor : decide (a < -500000000) = true ∨ (decide (a < -500000000) = false ∧ decide (500000000 < a) = true) ∨ (decide (a < -500000000) = false ∧ decide (500000000 < a) = false ∧ decide (b < -500000000) = true) ∨ (decide (a < -500000000) = false ∧ decide (500000000 < a) = false ∧ decide (b < -500000000) = false ∧ decide (500000000 < b) = true) := by
        by_cases q1 : a < -500000000 <;> by_cases q2 : 500000000 < a <;> by_cases q3 : b < -500000000 <;> by_cases q4 : 500000000 < b <;> simp only [q1, q2, q3, q4, decide_true, decide_false] <;> (try simp) <;> omega
      clear hsm hs
      rcases hor with d1 | ⟨d1, d2⟩ | ⟨d1, d2, d3⟩ | ⟨d1, d2, d3, d4⟩
      all_goals
        go_enter Try.func5, Try.ntmps5
        go_wp2_with (first
                  | ((go_at_call 40; (refine (nsum_any ⟨a, a⟩ ⟨b, b⟩ ⟨lo, hi⟩ _).mono ?_); rintro e w1 ⟨x1, hx1, rfl, hb1⟩ <;> (rw [HS.out] at hx1; subst hx1; have q := Up.le hb1; simp only [World.size_alloc] at q; have _ : w.heap.size < w1.heap.size + 1 := (by omega); have _ : w.heap.size < w1.heap.size + 1 + 1 := (by omega); have _ : w.heap.size ≠ w1.heap.size + 1 := (by omega); have _ : w.heap.size ≠ w1.heap.size + 1 + 1 := (by omega); clear q)) <;> (have hle := Up.le hb1; (try simp only [World.size_alloc, World.size_setCell, World.size_drew, World.heap_drewN] at hle); (try (have _ : w.heap.size < w1.heap.size := (by omega); (try (apply fk hb1 (w.heap.size); (focus (go_simp; rfl)); (focus (intro o; go_simp)); intro z; (try clear f_0); have f_0 := z; clear z)); (try (apply ck hb1 (w.heap.size) 0; (focus (go_simp; rfl)); intro z; (try clear c_0_0); have c_0_0 := z; clear z; (try (apply ck hb1 (w.heap.size) 1; (focus (go_simp; rfl)); intro z; (try clear c_0_1); have c_0_1 := z; clear z)))); (try (have _ : w.heap.size + 1 < w1.heap.size := (by omega); (try (apply fk hb1 (w.heap.size + 1); (focus (go_simp; rfl)); (focus (intro o; go_simp)); intro z; (try clear f_1); have f_1 := z; clear z)); (try (apply ck hb1 (w.heap.size + 1) 0; (focus (go_simp; rfl)); intro z; (try clear c_1_0); have c_1_0 := z; clear z; (try (apply ck hb1 (w.heap.size + 1) 1; (focus (go_simp; rfl)); intro z; (try clear c_1_1); have c_1_1 := z; clear z)))); (try (have _ : w.heap.size + 1 + 1 < w1.heap.size := (by omega); (try (apply fk hb1 (w.heap.size + 1 + 1); (focus (go_simp; rfl)); (focus (intro o; go_simp)); intro z; (try clear f_2); have f_2 := z; clear z)); (try (apply ck hb1 (w.heap.size + 1 + 1) 0; (focus (go_simp; rfl)); intro z; (try clear c_2_0); have c_2_0 := z; clear z; (try (apply ck hb1 (w.heap.size + 1 + 1) 1; (focus (go_simp; rfl)); intro z; (try clear c_2_1); have c_2_1 := z; clear z)))); (try (have _ : w.heap.size + 1 + 1 + 1 < w1.heap.size := (by omega); (try (apply fk hb1 (w.heap.size + 1 + 1 + 1); (focus (go_simp; rfl)); (focus (intro o; go_simp)); intro z; (try clear f_3); have f_3 := z; clear z)); (try (apply ck hb1 (w.heap.size + 1 + 1 + 1) 0; (focus (go_simp; rfl)); intro z; (try clear c_3_0); have c_3_0 := z; clear z; (try (apply ck hb1 (w.heap.size + 1 + 1 + 1) 1; (focus (go_simp; rfl)); intro z; (try clear c_3_1); have c_3_1 := z; clear z)))); (try (have _ : w.heap.size + 1 + 1 + 1 + 1 < w1.heap.size := (by omega); (try (apply fk hb1 (w.heap.size + 1 + 1 + 1 + 1); (focus (go_simp; rfl)); (focus (intro o; go_simp)); intro z; (try clear f_4); have f_4 := z; clear z)); (try (apply ck hb1 (w.heap.size + 1 + 1 + 1 + 1) 0; (focus (go_simp; rfl)); intro z; (try clear c_4_0); have c_4_0 := z; clear z; (try (apply ck hb1 (w.heap.size + 1 + 1 + 1 + 1) 1; (focus (go_simp; rfl)); intro z; (try clear c_4_1); have c_4_1 := z; clear z)))))))))))))); clear hle; (try (apply old_keep (w0 := w) (w := w1); (focus ((repeat (first | (with_reducible exact Up.refl _) | (with_reducible assumption) | (with_reducible refine Up.alloc ?_ _) | (with_reducible refine Up.drew ?_) | ((with_reducible refine Up.set ?_ ?_ _); rotate_left; focus (first | omega | (simp; done) | (simp; omega))) | (with_reducible refine Up.drewN ?_ _) | (with_reducible refine Up.call ?_ (by with_reducible assumption)))))); intro y z; (try clear hUp); (try clear hOld); have hUp := y; have hOld := z; clear y z)))))
        all_goals
          go_ret
          refine LawEnd.mk rfl ?_
          (repeat (first | (with_reducible exact Up.refl _) | (with_reducible assumption) | (with_reducible refine Up.alloc ?_ _) | (with_reducible refine Up.drew ?_) | ((with_reducible refine Up.set ?_ ?_ _); rotate_left; focus (first | omega | (simp; done) | (simp; omega))) | (with_reducible refine Up.drewN ?_ _) | (with_reducible refine Up.call ?_ (by with_reducible assumption))))
set_option maxRecDepth 100000 in
theorem narrowPoint_lifted (os : Os) (started : os.Started) (H : Type) (enc : TypeId × Value → H) :
    ReturnsInHanded {} Try.checked os 5 .any (Rows.narrowPointSpec.pre6 enc Try.prog Try.f5 Rows.narrowPointRow.domain false) (Rows.narrowPointSpec.post enc Try.prog Try.f5 false true false false) := by
  refine returnsInHanded_of_change (C := Try.checked) Try.own started (by kernel_rfl) Try.func5
    (ChangeSpec.witness6 (enc := enc) (C := Try.checked) false ⟨#[], #[.int .i64 0, .int .i64 0, .agg #[.int .i64 0, .int .i64 0]], []⟩ 8 (by kernel_rfl) (by kernel_rfl) (by kernel_rfl) (by kernel_rfl)) ?_
  intro W base args ds gs before hval0 hW hcnd _
  have hval : ∀ (j : Nat) t v, Try.f5.params[j]? = some t → args[j]? = some v → Value.okWide Try.prog W .any base t v := hval0
  have hW' := hW
  obtain ⟨p, q, hA0, hV, rfl, hfz, hnd⟩ := hW
  have hA : DataW.TrodAll enc Try.prog W 0 (fun _ => true) true Try.f5.params.toList args.toList ds p := hA0
  rw [Try.params5] at hA hval
  obtain ⟨v0, v1, v2, d0, d1, d2, p0, p1, p2, rfl, rfl, rfl, h0, h1, h2⟩ := trodAll_three hA
  obtain ⟨rfl, rfl⟩ := trodVars_none hV
  obtain ⟨n0, rfl, w0⟩ := open_i64 Try.underlying3 (hval 0 3 _ rfl rfl) h0
  obtain ⟨n1, rfl, w1⟩ := open_i64 Try.underlying3 (hval 1 3 _ rfl rfl) h1
  obtain ⟨lo2, hi2, rfl, w2a, w2b⟩ := open_span (ti := 3) Try.underlying27 rfl rfl Try.underlying3 (by kernel_rfl) Try.cellsSpan (hval 2 27 _ rfl rfl) h2
  clear hA0 hval0
  refine (narrowPoint_walk n0 n1 lo2 hi2 W w0 w1 ⟨wf_I64 w2a, wf_I64 w2b⟩).mono fun e W' ⟨he, hu⟩ => ?_
  subst he
  exact ⟨_, rfl, law_post Try.laidOut rfl rfl Try.underlying4 (fun t ht => by simp [Try.params5] at ht; (try rcases ht with rfl | rfl); all_goals (first | (subst ht; exact ⟨by kernel_rfl, of_decide_eq_true (by kernel_rfl)⟩) | exact ⟨by kernel_rfl, of_decide_eq_true (by kernel_rfl)⟩)) hW' rfl rfl rfl hu⟩
theorem narrowPoint_k1 : (Rows.narrowPointRow.inPlace == Try.pinned.checked.prog.inPlace 5) = true := by kernel_rfl
theorem narrowPoint_k2 : (Rows.narrowPointRow.unfollowed == Try.pinned.checked.prog.unfollowed 5) = true := by kernel_rfl
theorem narrowPoint_k3 : (Rows.narrowPointRow.recurses == Try.pinned.checked.prog.recurses 5) = true := by kernel_rfl
theorem narrowPoint_k4 : (Rows.narrowPointRow.named == Try.pinned.checked.prog.varsNamed 5) = true := by kernel_rfl
theorem narrowPoint_facts : joinedFacts Try.pinned.checked.prog 5 Try.f5 Rows.narrowPointSpec Rows.narrowPointRow = true :=
  joined_of _ _ _ _ _ Try.g1 Try.g2 Try.g3 Try.g4 Try.g5 Try.g6 Try.g7 Try.g8 Try.g9 narrowPoint_k1 narrowPoint_k2 narrowPoint_k3 narrowPoint_k4 (by kernel_rfl)
theorem narrowPoint_holds : Rows.NarrowPointSaid :=
  OpenClaim.holds_of_wide 5 Try.f5 rfl rfl rfl rfl rfl rfl rfl ⟨rfl, rfl, rfl, rfl, rfl⟩ rfl rfl rfl rfl rfl (by kernel_rfl) Try.func5 narrowPoint_facts
    (of_decide_eq_true (by kernel_rfl)) (by unfold Func.isWrapper; rw [if_neg (by decide +kernel)]; exact ⟨rfl, rfl⟩)
    (fun os started H enc _ => narrowPoint_lifted os started H enc)
#print axioms narrowPoint_holds
end Go.Proofs.Ytmnbgcbiaapldaa
