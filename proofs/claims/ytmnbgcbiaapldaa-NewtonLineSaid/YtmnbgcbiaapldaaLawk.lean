/- NewtonLine: of a line one step is enough. -/
import Derived.Test.YtmnbgcbiaapldaaNewton
import Derived.Test.YtmnbgcbiaapldaaHase
import Derived.Test.YtmnbgcbiaapldaaLawi
import Derived.Test.YtmnbgcbiaapldaaOwn
import Derived.Test.YtmnbgcbiaapldaaLits
import Derived.Test.YtmnbgcbiaapldaaRowb
import Derived.Test.YtmnbgcbiaapldaaFacts
set_option linter.unusedVariables false
set_option linter.unusedSimpArgs false
namespace Go.Proofs.Ytmnbgcbiaapldaa
open Go.ChangeShapes Go.WideShapes Go.ChangeAt Go.RowKit Go.Joins Go.Deep

theorem prod_thou {m : Int} (h : M m) : prodF ⟨1000, 1000⟩ ⟨m, m⟩ = .ok ⟨m, m⟩ := by
  have e1 : pdn 1000 m = m := by unfold pdn dn; omega
  have e2 : pup 1000 m = m := by unfold pup up; omega
  unfold prodF cornersF
  simp only [e1, e2]
  have e3 : min4 m m m m = m := by unfold min4; omega
  have e4 : max4 m m m m = m := by unfold max4; omega
  rw [e3, e4]
  exact fits_M2 ⟨h, h⟩
theorem quo_thou {m : Int} (h : M m) : quoF ⟨m, m⟩ ⟨1000, 1000⟩ = .ok ⟨m, m⟩ := by
  have e1 : qdn m 1000 = m := by unfold qdn dn; rw [if_neg (by decide)]; omega
  have e2 : qup m 1000 = m := by unfold qup up; rw [if_neg (by decide)]; omega
  unfold quoF
  rw [if_neg (by decide)]
  unfold cornersF
  simp only [e1, e2]
  have e3 : min4 m m m m = m := by unfold min4; omega
  have e4 : max4 m m m m = m := by unfold max4; omega
  rw [e3, e4]
  exact fits_M2 ⟨h, h⟩
theorem half_M {x : Sp} (h : Rt x) : M (halfF x) ∧ x.lo ≤ halfF x ∧ halfF x ≤ x.hi := by
  obtain ⟨⟨a, b⟩, ⟨c, d⟩, e⟩ := h
  unfold halfF dn M
  omega
theorem line_nested {n m : Int} (hm : M m) (hd : M (m - n)) : nestedF ⟨m, m⟩ [-n, 1000] = .ok ⟨m - n, m - n⟩ := by
  simp only [nestedF]
  rw [prod_thou hm]
  dsimp only
  unfold sumF
  dsimp only
  rw [show m + -n = m - n by omega]
  exact fits_M2 ⟨hd, hd⟩
theorem line_nested_ok {n m : Int} {s : Sp} (hm : M m) (h : nestedF ⟨m, m⟩ [-n, 1000] = .ok s) : s = ⟨m - n, m - n⟩ ∧ M (m - n) := by
  simp only [nestedF] at h
  rw [prod_thou hm] at h
  dsimp only at h
  unfold sumF at h
  obtain ⟨e, k, -⟩ := fits_ok h
  dsimp only at e k
  rw [show m + -n = m - n by omega] at e k
  exact ⟨e, k⟩
theorem line_steep {n : Int} {x : Sp} : steepF [-n, 1000] x = .ok ⟨1000, 1000⟩ := by
  unfold steepF slopeF
  rw [if_neg (by simp)]
  simp only [List.tail_cons, slopeG]
  rw [if_pos (by decide)]
  rfl
theorem line_nearer {n : Int} {x : Sp} (hx : Rt x) (hn : M n) (hd : M (halfF x - n)) : nearerF [-n, 1000] x = comF ⟨n, n⟩ x := by
  unfold nearerF
  rw [line_nested (half_M hx).1 hd]
  dsimp only
  rw [line_steep]
  dsimp only
  rw [quo_thou hd]
  dsimp only
  unfold restF
  dsimp only
  rw [show halfF x - (halfF x - n) = n by omega, fits_M2 ⟨hn, hn⟩]
theorem line_pboth {n : Int} {x : Sp} (hx : Rt x) (hn : M n) : pbothF [-n, 1000] x = none := by
  unfold pbothF pcheckF
  rw [if_neg (by simp), if_neg (by simp), if_pos]
  · exact checkF_none.2 hx
  · intro k hk
    simp at hk
    rcases hk with rfl | rfl
    · unfold M at *; omega
    · decide
theorem line_step {n : Int} {x s : Sp} (h : nstepF [-n, 1000] x = .ok s) : s = ⟨n, n⟩ := by
  obtain ⟨h1, h2⟩ := orErr_ok h
  have hp := pboth_none h1
  have hn : M n := by have := hp.2.2.1 (-n) (by simp); unfold M at *; omega
  have hm := (half_M hp.2.2.2).1
  cases h3 : nestedF ⟨halfF x, halfF x⟩ [-n, 1000] with
  | error e => unfold nearerF at h2; rw [h3] at h2; cases h2
  | ok a =>
    obtain ⟨-, hd⟩ := line_nested_ok hm h3
    rw [line_nearer hp.2.2.2 hn hd] at h2
    unfold comF at h2
    split at h2
    · cases h2
    · injection h2 with h2
      subst h2
      rename_i h6
      simp at h6
      apply Sp.ext' <;> simp <;> omega
theorem line_step_bad {n : Int} {x : Sp} {k : Nat} (h : nstepF [-n, 1000] x = .error k) (hx : checkF x = none) (h1 : x.lo ≤ n) (h2 : n ≤ x.hi) (h3 : -400000000 ≤ n) (h4 : n ≤ 400000000) (h5 : -400000000 ≤ x.lo) (h6 : x.hi ≤ 400000000) : False := by
  have hr := checkF_none.1 hx
  have hm := half_M hr
  have hn : M n := by unfold M; omega
  have hd : M (halfF x - n) := by unfold M; omega
  unfold nstepF at h
  rw [line_pboth hr hn] at h
  change nearerF [-n, 1000] x = _ at h
  rw [line_nearer hr hn hd] at h
  unfold comF at h
  rw [if_neg (by simp; omega)] at h
  cases h
set_option maxRecDepth 100000 in
set_option maxHeartbeats 4000000 in
theorem newtonLine_walk (n lo hi : Int) (w : World) (hn : I64 n) (_h : I64 lo ∧ I64 hi) :
    Calls Try.prog 12 #[.int .i64 n, .agg #[.int .i64 lo, .int .i64 hi]] w (LawEnd w) := by
  clear _h
  obtain ⟨n1, n2⟩ := hn
  by_cases hmin : n = -9223372036854775808
  · subst hmin
    have C := hid (fun A W (hr : RdI W A [-9223372036854775808, 1000]) => (nstep_any A [-9223372036854775808, 1000] 2 lo hi W (by simp) hr : Calls Try.prog 59 #[.slice A 2 2, .agg #[.int .i64 lo, .int .i64 hi]] W (RetX spR (nstepF [-9223372036854775808, 1000] ⟨lo, hi⟩) W)))
    have H := hid (show nstepF [-9223372036854775808, 1000] ⟨lo, hi⟩ = .error 1 by rfl)
    cases hc : checkF ⟨lo, hi⟩ with
    | some e =>
      have Hc := hid hc; clear hc
      go_enter Try.func12, Try.ntmps12
      go_wp2_with (first
        | ((go_at_call 59; (refine (C.out _ _ (rdi2 (by go_simp; unfold wrap64; rfl) (by go_simp))).mono ?_); rintro e w1 ⟨x1, hx1, rfl, hb1⟩ <;> (rw [H.out] at hx1; subst hx1)) <;> (have hle := Up.le hb1; (try simp only [World.size_alloc, World.size_setCell, World.size_drew, World.heap_drewN] at hle); try (have _ : w.heap.size < w1.heap.size := (by omega); try (apply fk hb1 (w.heap.size); (focus (go_simp; rfl)); (focus (intro o; go_simp)); intro z; (try clear f_0); have f_0 := z; clear z); try (apply ck hb1 (w.heap.size) 0; (focus (go_simp; rfl)); intro z; (try clear c_0_0); have c_0_0 := z; clear z; try (apply ck hb1 (w.heap.size) 1; (focus (go_simp; rfl)); intro z; (try clear c_0_1); have c_0_1 := z; clear z)); try (have _ : w.heap.size + 1 < w1.heap.size := (by omega); try (apply fk hb1 (w.heap.size + 1); (focus (go_simp; rfl)); (focus (intro o; go_simp)); intro z; (try clear f_1); have f_1 := z; clear z); try (apply ck hb1 (w.heap.size + 1) 0; (focus (go_simp; rfl)); intro z; (try clear c_1_0); have c_1_0 := z; clear z; try (apply ck hb1 (w.heap.size + 1) 1; (focus (go_simp; rfl)); intro z; (try clear c_1_1); have c_1_1 := z; clear z)); try (have _ : w.heap.size + 1 + 1 < w1.heap.size := (by omega); try (apply fk hb1 (w.heap.size + 1 + 1); (focus (go_simp; rfl)); (focus (intro o; go_simp)); intro z; (try clear f_2); have f_2 := z; clear z); try (apply ck hb1 (w.heap.size + 1 + 1) 0; (focus (go_simp; rfl)); intro z; (try clear c_2_0); have c_2_0 := z; clear z; try (apply ck hb1 (w.heap.size + 1 + 1) 1; (focus (go_simp; rfl)); intro z; (try clear c_2_1); have c_2_1 := z; clear z)); try (have _ : w.heap.size + 1 + 1 + 1 < w1.heap.size := (by omega); try (apply fk hb1 (w.heap.size + 1 + 1 + 1); (focus (go_simp; rfl)); (focus (intro o; go_simp)); intro z; (try clear f_3); have f_3 := z; clear z); try (apply ck hb1 (w.heap.size + 1 + 1 + 1) 0; (focus (go_simp; rfl)); intro z; (try clear c_3_0); have c_3_0 := z; clear z; try (apply ck hb1 (w.heap.size + 1 + 1 + 1) 1; (focus (go_simp; rfl)); intro z; (try clear c_3_1); have c_3_1 := z; clear z)); try (have _ : w.heap.size + 1 + 1 + 1 + 1 < w1.heap.size := (by omega); try (apply fk hb1 (w.heap.size + 1 + 1 + 1 + 1); (focus (go_simp; rfl)); (focus (intro o; go_simp)); intro z; (try clear f_4); have f_4 := z; clear z); try (apply ck hb1 (w.heap.size + 1 + 1 + 1 + 1) 0; (focus (go_simp; rfl)); intro z; (try clear c_4_0); have c_4_0 := z; clear z; try (apply ck hb1 (w.heap.size + 1 + 1 + 1 + 1) 1; (focus (go_simp; rfl)); intro z; (try clear c_4_1); have c_4_1 := z; clear z))))))); clear hle; try (apply old_keep (w0 := w) (w := w1); (focus ((repeat (first | (with_reducible exact Up.refl _) | (with_reducible assumption) | (with_reducible refine Up.alloc ?_ _) | (with_reducible refine Up.drew ?_) | ((with_reducible refine Up.set ?_ ?_ _); rotate_left; focus (first | omega | (simp; done) | (simp; omega))) | (with_reducible refine Up.drewN ?_ _) | (with_reducible refine Up.call ?_ (by with_reducible assumption)))))); intro y z; (try clear hUp); (try clear hOld); have hUp := y; have hOld := z; clear y z)))
        | ((go_at_call 36; (with_reducible refine (check_any _ _ _).mono ?_); rintro e w2 ⟨x2, hx2, rfl, hb2⟩ <;> (rw [Hc.out] at hx2; subst hx2)) <;> (have hle := Up.le hb2; (try simp only [World.size_alloc, World.size_setCell, World.size_drew, World.heap_drewN] at hle); try (have _ : w.heap.size < w2.heap.size := (by omega); try (apply fk hb2 (w.heap.size); (focus (go_simp; rfl)); (focus (intro o; go_simp)); intro z; (try clear f_0); have f_0 := z; clear z); try (apply ck hb2 (w.heap.size) 0; (focus (go_simp; rfl)); intro z; (try clear c_0_0); have c_0_0 := z; clear z; try (apply ck hb2 (w.heap.size) 1; (focus (go_simp; rfl)); intro z; (try clear c_0_1); have c_0_1 := z; clear z)); try (have _ : w.heap.size + 1 < w2.heap.size := (by omega); try (apply fk hb2 (w.heap.size + 1); (focus (go_simp; rfl)); (focus (intro o; go_simp)); intro z; (try clear f_1); have f_1 := z; clear z); try (apply ck hb2 (w.heap.size + 1) 0; (focus (go_simp; rfl)); intro z; (try clear c_1_0); have c_1_0 := z; clear z; try (apply ck hb2 (w.heap.size + 1) 1; (focus (go_simp; rfl)); intro z; (try clear c_1_1); have c_1_1 := z; clear z)); try (have _ : w.heap.size + 1 + 1 < w2.heap.size := (by omega); try (apply fk hb2 (w.heap.size + 1 + 1); (focus (go_simp; rfl)); (focus (intro o; go_simp)); intro z; (try clear f_2); have f_2 := z; clear z); try (apply ck hb2 (w.heap.size + 1 + 1) 0; (focus (go_simp; rfl)); intro z; (try clear c_2_0); have c_2_0 := z; clear z; try (apply ck hb2 (w.heap.size + 1 + 1) 1; (focus (go_simp; rfl)); intro z; (try clear c_2_1); have c_2_1 := z; clear z)); try (have _ : w.heap.size + 1 + 1 + 1 < w2.heap.size := (by omega); try (apply fk hb2 (w.heap.size + 1 + 1 + 1); (focus (go_simp; rfl)); (focus (intro o; go_simp)); intro z; (try clear f_3); have f_3 := z; clear z); try (apply ck hb2 (w.heap.size + 1 + 1 + 1) 0; (focus (go_simp; rfl)); intro z; (try clear c_3_0); have c_3_0 := z; clear z; try (apply ck hb2 (w.heap.size + 1 + 1 + 1) 1; (focus (go_simp; rfl)); intro z; (try clear c_3_1); have c_3_1 := z; clear z)); try (have _ : w.heap.size + 1 + 1 + 1 + 1 < w2.heap.size := (by omega); try (apply fk hb2 (w.heap.size + 1 + 1 + 1 + 1); (focus (go_simp; rfl)); (focus (intro o; go_simp)); intro z; (try clear f_4); have f_4 := z; clear z); try (apply ck hb2 (w.heap.size + 1 + 1 + 1 + 1) 0; (focus (go_simp; rfl)); intro z; (try clear c_4_0); have c_4_0 := z; clear z; try (apply ck hb2 (w.heap.size + 1 + 1 + 1 + 1) 1; (focus (go_simp; rfl)); intro z; (try clear c_4_1); have c_4_1 := z; clear z))))))); try (have _ : w1.heap.size < w2.heap.size := (by omega); try (apply fk hb2 (w1.heap.size); (focus (go_simp; rfl)); (focus (intro o; go_simp)); intro z; (try clear f1_0); have f1_0 := z; clear z); try (apply ck hb2 (w1.heap.size) 0; (focus (go_simp; rfl)); intro z; (try clear c1_0_0); have c1_0_0 := z; clear z; try (apply ck hb2 (w1.heap.size) 1; (focus (go_simp; rfl)); intro z; (try clear c1_0_1); have c1_0_1 := z; clear z)); try (have _ : w1.heap.size + 1 < w2.heap.size := (by omega); try (apply fk hb2 (w1.heap.size + 1); (focus (go_simp; rfl)); (focus (intro o; go_simp)); intro z; (try clear f1_1); have f1_1 := z; clear z); try (apply ck hb2 (w1.heap.size + 1) 0; (focus (go_simp; rfl)); intro z; (try clear c1_1_0); have c1_1_0 := z; clear z; try (apply ck hb2 (w1.heap.size + 1) 1; (focus (go_simp; rfl)); intro z; (try clear c1_1_1); have c1_1_1 := z; clear z)))); clear hle; try (apply old_keep (w0 := w) (w := w2); (focus ((repeat (first | (with_reducible exact Up.refl _) | (with_reducible assumption) | (with_reducible refine Up.alloc ?_ _) | (with_reducible refine Up.drew ?_) | ((with_reducible refine Up.set ?_ ?_ _); rotate_left; focus (first | omega | (simp; done) | (simp; omega))) | (with_reducible refine Up.drewN ?_ _) | (with_reducible refine Up.call ?_ (by with_reducible assumption)))))); intro y z; (try clear hUp); (try clear hOld); have hUp := y; have hOld := z; clear y z))))
      all_goals
        go_ret
        refine LawEnd.mk rfl ?_
        (repeat (first | (with_reducible exact Up.refl _) | (with_reducible assumption) | (with_reducible refine Up.alloc ?_ _) | (with_reducible refine Up.drew ?_) | ((with_reducible refine Up.set ?_ ?_ _); rotate_left; focus (first | omega | (simp; done) | (simp; omega))) | (with_reducible refine Up.drewN ?_ _) | (with_reducible refine Up.call ?_ (by with_reducible assumption))))
    | none =>
      have Hc := hid hc; clear hc
      go_enter Try.func12, Try.ntmps12
      go_wp2_with (first
        | ((go_at_call 59; (refine (C.out _ _ (rdi2 (by go_simp; unfold wrap64; rfl) (by go_simp))).mono ?_); rintro e w1 ⟨x1, hx1, rfl, hb1⟩ <;> (rw [H.out] at hx1; subst hx1)) <;> (have hle := Up.le hb1; (try simp only [World.size_alloc, World.size_setCell, World.size_drew, World.heap_drewN] at hle); try (have _ : w.heap.size < w1.heap.size := (by omega); try (apply fk hb1 (w.heap.size); (focus (go_simp; rfl)); (focus (intro o; go_simp)); intro z; (try clear f_0); have f_0 := z; clear z); try (apply ck hb1 (w.heap.size) 0; (focus (go_simp; rfl)); intro z; (try clear c_0_0); have c_0_0 := z; clear z; try (apply ck hb1 (w.heap.size) 1; (focus (go_simp; rfl)); intro z; (try clear c_0_1); have c_0_1 := z; clear z)); try (have _ : w.heap.size + 1 < w1.heap.size := (by omega); try (apply fk hb1 (w.heap.size + 1); (focus (go_simp; rfl)); (focus (intro o; go_simp)); intro z; (try clear f_1); have f_1 := z; clear z); try (apply ck hb1 (w.heap.size + 1) 0; (focus (go_simp; rfl)); intro z; (try clear c_1_0); have c_1_0 := z; clear z; try (apply ck hb1 (w.heap.size + 1) 1; (focus (go_simp; rfl)); intro z; (try clear c_1_1); have c_1_1 := z; clear z)); try (have _ : w.heap.size + 1 + 1 < w1.heap.size := (by omega); try (apply fk hb1 (w.heap.size + 1 + 1); (focus (go_simp; rfl)); (focus (intro o; go_simp)); intro z; (try clear f_2); have f_2 := z; clear z); try (apply ck hb1 (w.heap.size + 1 + 1) 0; (focus (go_simp; rfl)); intro z; (try clear c_2_0); have c_2_0 := z; clear z; try (apply ck hb1 (w.heap.size + 1 + 1) 1; (focus (go_simp; rfl)); intro z; (try clear c_2_1); have c_2_1 := z; clear z)); try (have _ : w.heap.size + 1 + 1 + 1 < w1.heap.size := (by omega); try (apply fk hb1 (w.heap.size + 1 + 1 + 1); (focus (go_simp; rfl)); (focus (intro o; go_simp)); intro z; (try clear f_3); have f_3 := z; clear z); try (apply ck hb1 (w.heap.size + 1 + 1 + 1) 0; (focus (go_simp; rfl)); intro z; (try clear c_3_0); have c_3_0 := z; clear z; try (apply ck hb1 (w.heap.size + 1 + 1 + 1) 1; (focus (go_simp; rfl)); intro z; (try clear c_3_1); have c_3_1 := z; clear z)); try (have _ : w.heap.size + 1 + 1 + 1 + 1 < w1.heap.size := (by omega); try (apply fk hb1 (w.heap.size + 1 + 1 + 1 + 1); (focus (go_simp; rfl)); (focus (intro o; go_simp)); intro z; (try clear f_4); have f_4 := z; clear z); try (apply ck hb1 (w.heap.size + 1 + 1 + 1 + 1) 0; (focus (go_simp; rfl)); intro z; (try clear c_4_0); have c_4_0 := z; clear z; try (apply ck hb1 (w.heap.size + 1 + 1 + 1 + 1) 1; (focus (go_simp; rfl)); intro z; (try clear c_4_1); have c_4_1 := z; clear z))))))); clear hle; try (apply old_keep (w0 := w) (w := w1); (focus ((repeat (first | (with_reducible exact Up.refl _) | (with_reducible assumption) | (with_reducible refine Up.alloc ?_ _) | (with_reducible refine Up.drew ?_) | ((with_reducible refine Up.set ?_ ?_ _); rotate_left; focus (first | omega | (simp; done) | (simp; omega))) | (with_reducible refine Up.drewN ?_ _) | (with_reducible refine Up.call ?_ (by with_reducible assumption)))))); intro y z; (try clear hUp); (try clear hOld); have hUp := y; have hOld := z; clear y z)))
        | ((go_at_call 36; (with_reducible refine (check_any _ _ _).mono ?_); rintro e w2 ⟨x2, hx2, rfl, hb2⟩ <;> (rw [Hc.out] at hx2; subst hx2)) <;> (have hle := Up.le hb2; (try simp only [World.size_alloc, World.size_setCell, World.size_drew, World.heap_drewN] at hle); try (have _ : w.heap.size < w2.heap.size := (by omega); try (apply fk hb2 (w.heap.size); (focus (go_simp; rfl)); (focus (intro o; go_simp)); intro z; (try clear f_0); have f_0 := z; clear z); try (apply ck hb2 (w.heap.size) 0; (focus (go_simp; rfl)); intro z; (try clear c_0_0); have c_0_0 := z; clear z; try (apply ck hb2 (w.heap.size) 1; (focus (go_simp; rfl)); intro z; (try clear c_0_1); have c_0_1 := z; clear z)); try (have _ : w.heap.size + 1 < w2.heap.size := (by omega); try (apply fk hb2 (w.heap.size + 1); (focus (go_simp; rfl)); (focus (intro o; go_simp)); intro z; (try clear f_1); have f_1 := z; clear z); try (apply ck hb2 (w.heap.size + 1) 0; (focus (go_simp; rfl)); intro z; (try clear c_1_0); have c_1_0 := z; clear z; try (apply ck hb2 (w.heap.size + 1) 1; (focus (go_simp; rfl)); intro z; (try clear c_1_1); have c_1_1 := z; clear z)); try (have _ : w.heap.size + 1 + 1 < w2.heap.size := (by omega); try (apply fk hb2 (w.heap.size + 1 + 1); (focus (go_simp; rfl)); (focus (intro o; go_simp)); intro z; (try clear f_2); have f_2 := z; clear z); try (apply ck hb2 (w.heap.size + 1 + 1) 0; (focus (go_simp; rfl)); intro z; (try clear c_2_0); have c_2_0 := z; clear z; try (apply ck hb2 (w.heap.size + 1 + 1) 1; (focus (go_simp; rfl)); intro z; (try clear c_2_1); have c_2_1 := z; clear z)); try (have _ : w.heap.size + 1 + 1 + 1 < w2.heap.size := (by omega); try (apply fk hb2 (w.heap.size + 1 + 1 + 1); (focus (go_simp; rfl)); (focus (intro o; go_simp)); intro z; (try clear f_3); have f_3 := z; clear z); try (apply ck hb2 (w.heap.size + 1 + 1 + 1) 0; (focus (go_simp; rfl)); intro z; (try clear c_3_0); have c_3_0 := z; clear z; try (apply ck hb2 (w.heap.size + 1 + 1 + 1) 1; (focus (go_simp; rfl)); intro z; (try clear c_3_1); have c_3_1 := z; clear z)); try (have _ : w.heap.size + 1 + 1 + 1 + 1 < w2.heap.size := (by omega); try (apply fk hb2 (w.heap.size + 1 + 1 + 1 + 1); (focus (go_simp; rfl)); (focus (intro o; go_simp)); intro z; (try clear f_4); have f_4 := z; clear z); try (apply ck hb2 (w.heap.size + 1 + 1 + 1 + 1) 0; (focus (go_simp; rfl)); intro z; (try clear c_4_0); have c_4_0 := z; clear z; try (apply ck hb2 (w.heap.size + 1 + 1 + 1 + 1) 1; (focus (go_simp; rfl)); intro z; (try clear c_4_1); have c_4_1 := z; clear z))))))); try (have _ : w1.heap.size < w2.heap.size := (by omega); try (apply fk hb2 (w1.heap.size); (focus (go_simp; rfl)); (focus (intro o; go_simp)); intro z; (try clear f1_0); have f1_0 := z; clear z); try (apply ck hb2 (w1.heap.size) 0; (focus (go_simp; rfl)); intro z; (try clear c1_0_0); have c1_0_0 := z; clear z; try (apply ck hb2 (w1.heap.size) 1; (focus (go_simp; rfl)); intro z; (try clear c1_0_1); have c1_0_1 := z; clear z)); try (have _ : w1.heap.size + 1 < w2.heap.size := (by omega); try (apply fk hb2 (w1.heap.size + 1); (focus (go_simp; rfl)); (focus (intro o; go_simp)); intro z; (try clear f1_1); have f1_1 := z; clear z); try (apply ck hb2 (w1.heap.size + 1) 0; (focus (go_simp; rfl)); intro z; (try clear c1_1_0); have c1_1_0 := z; clear z; try (apply ck hb2 (w1.heap.size + 1) 1; (focus (go_simp; rfl)); intro z; (try clear c1_1_1); have c1_1_1 := z; clear z)))); clear hle; try (apply old_keep (w0 := w) (w := w2); (focus ((repeat (first | (with_reducible exact Up.refl _) | (with_reducible assumption) | (with_reducible refine Up.alloc ?_ _) | (with_reducible refine Up.drew ?_) | ((with_reducible refine Up.set ?_ ?_ _); rotate_left; focus (first | omega | (simp; done) | (simp; omega))) | (with_reducible refine Up.drewN ?_ _) | (with_reducible refine Up.call ?_ (by with_reducible assumption)))))); intro y z; (try clear hUp); (try clear hOld); have hUp := y; have hOld := z; clear y z))))
      all_goals
        go_ret
        refine LawEnd.mk rfl ?_
        (repeat (first | (with_reducible exact Up.refl _) | (with_reducible assumption) | (with_reducible refine Up.alloc ?_ _) | (with_reducible refine Up.drew ?_) | ((with_reducible refine Up.set ?_ ?_ _); rotate_left; focus (first | omega | (simp; done) | (simp; omega))) | (with_reducible refine Up.drewN ?_ _) | (with_reducible refine Up.call ?_ (by with_reducible assumption))))
  · have C := hid (fun A W (hr : RdI W A [-n, 1000]) => (nstep_any A [-n, 1000] 2 lo hi W (by simp) hr : Calls Try.prog 59 #[.slice A 2 2, .agg #[.int .i64 lo, .int .i64 hi]] W (RetX spR (nstepF [-n, 1000] ⟨lo, hi⟩) W)))
    have n3 : -9223372036854775807 ≤ n := by omega
    clear hmin n1
    cases hs : nstepF [-n, 1000] ⟨lo, hi⟩ with
    | ok s =>
      have H := hid hs
      obtain rfl := line_step hs
      clear hs
      go_enter Try.func12, Try.ntmps12
      go_wp2_with (first
        | ((go_at_call 59; (refine (C.out _ _ (rdi2 (by go_simp) (by go_simp))).mono ?_); rintro e w1 ⟨x1, hx1, rfl, hb1⟩ <;> (rw [H.out] at hx1; subst hx1)) <;> (have hle := Up.le hb1; (try simp only [World.size_alloc, World.size_setCell, World.size_drew, World.heap_drewN] at hle); try (have _ : w.heap.size < w1.heap.size := (by omega); try (apply fk hb1 (w.heap.size); (focus (go_simp; rfl)); (focus (intro o; go_simp)); intro z; (try clear f_0); have f_0 := z; clear z); try (apply ck hb1 (w.heap.size) 0; (focus (go_simp; rfl)); intro z; (try clear c_0_0); have c_0_0 := z; clear z; try (apply ck hb1 (w.heap.size) 1; (focus (go_simp; rfl)); intro z; (try clear c_0_1); have c_0_1 := z; clear z)); try (have _ : w.heap.size + 1 < w1.heap.size := (by omega); try (apply fk hb1 (w.heap.size + 1); (focus (go_simp; rfl)); (focus (intro o; go_simp)); intro z; (try clear f_1); have f_1 := z; clear z); try (apply ck hb1 (w.heap.size + 1) 0; (focus (go_simp; rfl)); intro z; (try clear c_1_0); have c_1_0 := z; clear z; try (apply ck hb1 (w.heap.size + 1) 1; (focus (go_simp; rfl)); intro z; (try clear c_1_1); have c_1_1 := z; clear z)); try (have _ : w.heap.size + 1 + 1 < w1.heap.size := (by omega); try (apply fk hb1 (w.heap.size + 1 + 1); (focus (go_simp; rfl)); (focus (intro o; go_simp)); intro z; (try clear f_2); have f_2 := z; clear z); try (apply ck hb1 (w.heap.size + 1 + 1) 0; (focus (go_simp; rfl)); intro z; (try clear c_2_0); have c_2_0 := z; clear z; try (apply ck hb1 (w.heap.size + 1 + 1) 1; (focus (go_simp; rfl)); intro z; (try clear c_2_1); have c_2_1 := z; clear z)); try (have _ : w.heap.size + 1 + 1 + 1 < w1.heap.size := (by omega); try (apply fk hb1 (w.heap.size + 1 + 1 + 1); (focus (go_simp; rfl)); (focus (intro o; go_simp)); intro z; (try clear f_3); have f_3 := z; clear z); try (apply ck hb1 (w.heap.size + 1 + 1 + 1) 0; (focus (go_simp; rfl)); intro z; (try clear c_3_0); have c_3_0 := z; clear z; try (apply ck hb1 (w.heap.size + 1 + 1 + 1) 1; (focus (go_simp; rfl)); intro z; (try clear c_3_1); have c_3_1 := z; clear z)); try (have _ : w.heap.size + 1 + 1 + 1 + 1 < w1.heap.size := (by omega); try (apply fk hb1 (w.heap.size + 1 + 1 + 1 + 1); (focus (go_simp; rfl)); (focus (intro o; go_simp)); intro z; (try clear f_4); have f_4 := z; clear z); try (apply ck hb1 (w.heap.size + 1 + 1 + 1 + 1) 0; (focus (go_simp; rfl)); intro z; (try clear c_4_0); have c_4_0 := z; clear z; try (apply ck hb1 (w.heap.size + 1 + 1 + 1 + 1) 1; (focus (go_simp; rfl)); intro z; (try clear c_4_1); have c_4_1 := z; clear z))))))); clear hle; try (apply old_keep (w0 := w) (w := w1); (focus ((repeat (first | (with_reducible exact Up.refl _) | (with_reducible assumption) | (with_reducible refine Up.alloc ?_ _) | (with_reducible refine Up.drew ?_) | ((with_reducible refine Up.set ?_ ?_ _); rotate_left; focus (first | omega | (simp; done) | (simp; omega))) | (with_reducible refine Up.drewN ?_ _) | (with_reducible refine Up.call ?_ (by with_reducible assumption)))))); intro y z; (try clear hUp); (try clear hOld); have hUp := y; have hOld := z; clear y z))))
      all_goals
        go_ret
        refine LawEnd.mk (by simp) ?_
        (repeat (first | (with_reducible exact Up.refl _) | (with_reducible assumption) | (with_reducible refine Up.alloc ?_ _) | (with_reducible refine Up.drew ?_) | ((with_reducible refine Up.set ?_ ?_ _); rotate_left; focus (first | omega | (simp; done) | (simp; omega))) | (with_reducible refine Up.drewN ?_ _) | (with_reducible refine Up.call ?_ (by with_reducible assumption))))
    | error k =>
      have H := hid hs
      cases hc : checkF ⟨lo, hi⟩ with
      | some e =>
        have Hc := hid hc; clear hc hs
        go_enter Try.func12, Try.ntmps12
        go_wp2_with (first
          | ((go_at_call 59; (refine (C.out _ _ (rdi2 (by go_simp) (by go_simp))).mono ?_); rintro e w1 ⟨x1, hx1, rfl, hb1⟩ <;> (rw [H.out] at hx1; subst hx1)) <;> (have hle := Up.le hb1; (try simp only [World.size_alloc, World.size_setCell, World.size_drew, World.heap_drewN] at hle); try (have _ : w.heap.size < w1.heap.size := (by omega); try (apply fk hb1 (w.heap.size); (focus (go_simp; rfl)); (focus (intro o; go_simp)); intro z; (try clear f_0); have f_0 := z; clear z); try (apply ck hb1 (w.heap.size) 0; (focus (go_simp; rfl)); intro z; (try clear c_0_0); have c_0_0 := z; clear z; try (apply ck hb1 (w.heap.size) 1; (focus (go_simp; rfl)); intro z; (try clear c_0_1); have c_0_1 := z; clear z)); try (have _ : w.heap.size + 1 < w1.heap.size := (by omega); try (apply fk hb1 (w.heap.size + 1); (focus (go_simp; rfl)); (focus (intro o; go_simp)); intro z; (try clear f_1); have f_1 := z; clear z); try (apply ck hb1 (w.heap.size + 1) 0; (focus (go_simp; rfl)); intro z; (try clear c_1_0); have c_1_0 := z; clear z; try (apply ck hb1 (w.heap.size + 1) 1; (focus (go_simp; rfl)); intro z; (try clear c_1_1); have c_1_1 := z; clear z)); try (have _ : w.heap.size + 1 + 1 < w1.heap.size := (by omega); try (apply fk hb1 (w.heap.size + 1 + 1); (focus (go_simp; rfl)); (focus (intro o; go_simp)); intro z; (try clear f_2); have f_2 := z; clear z); try (apply ck hb1 (w.heap.size + 1 + 1) 0; (focus (go_simp; rfl)); intro z; (try clear c_2_0); have c_2_0 := z; clear z; try (apply ck hb1 (w.heap.size + 1 + 1) 1; (focus (go_simp; rfl)); intro z; (try clear c_2_1); have c_2_1 := z; clear z)); try (have _ : w.heap.size + 1 + 1 + 1 < w1.heap.size := (by omega); try (apply fk hb1 (w.heap.size + 1 + 1 + 1); (focus (go_simp; rfl)); (focus (intro o; go_simp)); intro z; (try clear f_3); have f_3 := z; clear z); try (apply ck hb1 (w.heap.size + 1 + 1 + 1) 0; (focus (go_simp; rfl)); intro z; (try clear c_3_0); have c_3_0 := z; clear z; try (apply ck hb1 (w.heap.size + 1 + 1 + 1) 1; (focus (go_simp; rfl)); intro z; (try clear c_3_1); have c_3_1 := z; clear z)); try (have _ : w.heap.size + 1 + 1 + 1 + 1 < w1.heap.size := (by omega); try (apply fk hb1 (w.heap.size + 1 + 1 + 1 + 1); (focus (go_simp; rfl)); (focus (intro o; go_simp)); intro z; (try clear f_4); have f_4 := z; clear z); try (apply ck hb1 (w.heap.size + 1 + 1 + 1 + 1) 0; (focus (go_simp; rfl)); intro z; (try clear c_4_0); have c_4_0 := z; clear z; try (apply ck hb1 (w.heap.size + 1 + 1 + 1 + 1) 1; (focus (go_simp; rfl)); intro z; (try clear c_4_1); have c_4_1 := z; clear z))))))); clear hle; try (apply old_keep (w0 := w) (w := w1); (focus ((repeat (first | (with_reducible exact Up.refl _) | (with_reducible assumption) | (with_reducible refine Up.alloc ?_ _) | (with_reducible refine Up.drew ?_) | ((with_reducible refine Up.set ?_ ?_ _); rotate_left; focus (first | omega | (simp; done) | (simp; omega))) | (with_reducible refine Up.drewN ?_ _) | (with_reducible refine Up.call ?_ (by with_reducible assumption)))))); intro y z; (try clear hUp); (try clear hOld); have hUp := y; have hOld := z; clear y z)))
          | ((go_at_call 36; (with_reducible refine (check_any _ _ _).mono ?_); rintro e w2 ⟨x2, hx2, rfl, hb2⟩ <;> (rw [Hc.out] at hx2; subst hx2)) <;> (have hle := Up.le hb2; (try simp only [World.size_alloc, World.size_setCell, World.size_drew, World.heap_drewN] at hle); try (have _ : w.heap.size < w2.heap.size := (by omega); try (apply fk hb2 (w.heap.size); (focus (go_simp; rfl)); (focus (intro o; go_simp)); intro z; (try clear f_0); have f_0 := z; clear z); try (apply ck hb2 (w.heap.size) 0; (focus (go_simp; rfl)); intro z; (try clear c_0_0); have c_0_0 := z; clear z; try (apply ck hb2 (w.heap.size) 1; (focus (go_simp; rfl)); intro z; (try clear c_0_1); have c_0_1 := z; clear z)); try (have _ : w.heap.size + 1 < w2.heap.size := (by omega); try (apply fk hb2 (w.heap.size + 1); (focus (go_simp; rfl)); (focus (intro o; go_simp)); intro z; (try clear f_1); have f_1 := z; clear z); try (apply ck hb2 (w.heap.size + 1) 0; (focus (go_simp; rfl)); intro z; (try clear c_1_0); have c_1_0 := z; clear z; try (apply ck hb2 (w.heap.size + 1) 1; (focus (go_simp; rfl)); intro z; (try clear c_1_1); have c_1_1 := z; clear z)); try (have _ : w.heap.size + 1 + 1 < w2.heap.size := (by omega); try (apply fk hb2 (w.heap.size + 1 + 1); (focus (go_simp; rfl)); (focus (intro o; go_simp)); intro z; (try clear f_2); have f_2 := z; clear z); try (apply ck hb2 (w.heap.size + 1 + 1) 0; (focus (go_simp; rfl)); intro z; (try clear c_2_0); have c_2_0 := z; clear z; try (apply ck hb2 (w.heap.size + 1 + 1) 1; (focus (go_simp; rfl)); intro z; (try clear c_2_1); have c_2_1 := z; clear z)); try (have _ : w.heap.size + 1 + 1 + 1 < w2.heap.size := (by omega); try (apply fk hb2 (w.heap.size + 1 + 1 + 1); (focus (go_simp; rfl)); (focus (intro o; go_simp)); intro z; (try clear f_3); have f_3 := z; clear z); try (apply ck hb2 (w.heap.size + 1 + 1 + 1) 0; (focus (go_simp; rfl)); intro z; (try clear c_3_0); have c_3_0 := z; clear z; try (apply ck hb2 (w.heap.size + 1 + 1 + 1) 1; (focus (go_simp; rfl)); intro z; (try clear c_3_1); have c_3_1 := z; clear z)); try (have _ : w.heap.size + 1 + 1 + 1 + 1 < w2.heap.size := (by omega); try (apply fk hb2 (w.heap.size + 1 + 1 + 1 + 1); (focus (go_simp; rfl)); (focus (intro o; go_simp)); intro z; (try clear f_4); have f_4 := z; clear z); try (apply ck hb2 (w.heap.size + 1 + 1 + 1 + 1) 0; (focus (go_simp; rfl)); intro z; (try clear c_4_0); have c_4_0 := z; clear z; try (apply ck hb2 (w.heap.size + 1 + 1 + 1 + 1) 1; (focus (go_simp; rfl)); intro z; (try clear c_4_1); have c_4_1 := z; clear z))))))); try (have _ : w1.heap.size < w2.heap.size := (by omega); try (apply fk hb2 (w1.heap.size); (focus (go_simp; rfl)); (focus (intro o; go_simp)); intro z; (try clear f1_0); have f1_0 := z; clear z); try (apply ck hb2 (w1.heap.size) 0; (focus (go_simp; rfl)); intro z; (try clear c1_0_0); have c1_0_0 := z; clear z; try (apply ck hb2 (w1.heap.size) 1; (focus (go_simp; rfl)); intro z; (try clear c1_0_1); have c1_0_1 := z; clear z)); try (have _ : w1.heap.size + 1 < w2.heap.size := (by omega); try (apply fk hb2 (w1.heap.size + 1); (focus (go_simp; rfl)); (focus (intro o; go_simp)); intro z; (try clear f1_1); have f1_1 := z; clear z); try (apply ck hb2 (w1.heap.size + 1) 0; (focus (go_simp; rfl)); intro z; (try clear c1_1_0); have c1_1_0 := z; clear z; try (apply ck hb2 (w1.heap.size + 1) 1; (focus (go_simp; rfl)); intro z; (try clear c1_1_1); have c1_1_1 := z; clear z)))); clear hle; try (apply old_keep (w0 := w) (w := w2); (focus ((repeat (first | (with_reducible exact Up.refl _) | (with_reducible assumption) | (with_reducible refine Up.alloc ?_ _) | (with_reducible refine Up.drew ?_) | ((with_reducible refine Up.set ?_ ?_ _); rotate_left; focus (first | omega | (simp; done) | (simp; omega))) | (with_reducible refine Up.drewN ?_ _) | (with_reducible refine Up.call ?_ (by with_reducible assumption)))))); intro y z; (try clear hUp); (try clear hOld); have hUp := y; have hOld := z; clear y z))))
        all_goals
          go_ret
          refine LawEnd.mk rfl ?_
          (repeat (first | (with_reducible exact Up.refl _) | (with_reducible assumption) | (with_reducible refine Up.alloc ?_ _) | (with_reducible refine Up.drew ?_) | ((with_reducible refine Up.set ?_ ?_ _); rotate_left; focus (first | omega | (simp; done) | (simp; omega))) | (with_reducible refine Up.drewN ?_ _) | (with_reducible refine Up.call ?_ (by with_reducible assumption))))
      | none =>
        have Hc := hid hc
        have Hb := hid (line_step_bad hs hc)
        clear hc hs
        have hor : (decide (n < lo) = true) ∨ (decide (n < lo) = false ∧ decide (hi < n) = true) ∨ (decide (n < lo) = false ∧ decide (hi < n) = false ∧ decide (n < -400000000) = true) ∨ (decide (n < lo) = false ∧ decide (hi < n) = false ∧ decide (n < -400000000) = false ∧ decide (400000000 < n) = true) ∨ (decide (n < lo) = false ∧ decide (hi < n) = false ∧ decide (n < -400000000) = false ∧ decide (400000000 < n) = false ∧ decide (lo < -400000000) = true) ∨ (decide (n < lo) = false ∧ decide (hi < n) = false ∧ decide (n < -400000000) = false ∧ decide (400000000 < n) = false ∧ decide (lo < -400000000) = false ∧ decide (400000000 < hi) = true) ∨ (decide (n < lo) = false ∧ decide (hi < n) = false ∧ decide (n < -400000000) = false ∧ decide (400000000 < n) = false ∧ decide (lo < -400000000) = false ∧ decide (400000000 < hi) = false) := by
          by_cases q1 : n < lo <;> by_cases q2 : hi < n <;> by_cases q3 : n < -400000000 <;> by_cases q4 : 400000000 < n <;> by_cases q5 : lo < -400000000 <;> by_cases q6 : 400000000 < hi <;> simp only [q1, q2, q3, q4, q5, q6, decide_true, decide_false] <;> simp
        rcases hor with d1 | ⟨d1, d2⟩ | ⟨d1, d2, d3⟩ | ⟨d1, d2, d3, d4⟩ | ⟨d1, d2, d3, d4, d5⟩ | ⟨d1, d2, d3, d4, d5, d6⟩ | ⟨d1, d2, d3, d4, d5, d6⟩
        rotate_left 6
        · have q1 : ¬ (n < lo) := by simpa using d1
          have q2 : ¬ (hi < n) := by simpa using d2
          have q3 : ¬ (n < -400000000) := by simpa using d3
          have q4 : ¬ (400000000 < n) := by simpa using d4
          have q5 : ¬ (lo < -400000000) := by simpa using d5
          have q6 : ¬ (400000000 < hi) := by simpa using d6
          exact (Hb.out (by simp; omega) (by simp; omega) (by omega) (by omega) (by simp; omega) (by simp; omega)).elim
        all_goals
          go_enter Try.func12, Try.ntmps12
          go_wp2_with (first
            | ((go_at_call 59; (refine (C.out _ _ (rdi2 (by go_simp) (by go_simp))).mono ?_); rintro e w1 ⟨x1, hx1, rfl, hb1⟩ <;> (rw [H.out] at hx1; subst hx1)) <;> (have hle := Up.le hb1; (try simp only [World.size_alloc, World.size_setCell, World.size_drew, World.heap_drewN] at hle); try (have _ : w.heap.size < w1.heap.size := (by omega); try (apply fk hb1 (w.heap.size); (focus (go_simp; rfl)); (focus (intro o; go_simp)); intro z; (try clear f_0); have f_0 := z; clear z); try (apply ck hb1 (w.heap.size) 0; (focus (go_simp; rfl)); intro z; (try clear c_0_0); have c_0_0 := z; clear z; try (apply ck hb1 (w.heap.size) 1; (focus (go_simp; rfl)); intro z; (try clear c_0_1); have c_0_1 := z; clear z)); try (have _ : w.heap.size + 1 < w1.heap.size := (by omega); try (apply fk hb1 (w.heap.size + 1); (focus (go_simp; rfl)); (focus (intro o; go_simp)); intro z; (try clear f_1); have f_1 := z; clear z); try (apply ck hb1 (w.heap.size + 1) 0; (focus (go_simp; rfl)); intro z; (try clear c_1_0); have c_1_0 := z; clear z; try (apply ck hb1 (w.heap.size + 1) 1; (focus (go_simp; rfl)); intro z; (try clear c_1_1); have c_1_1 := z; clear z)); try (have _ : w.heap.size + 1 + 1 < w1.heap.size := (by omega); try (apply fk hb1 (w.heap.size + 1 + 1); (focus (go_simp; rfl)); (focus (intro o; go_simp)); intro z; (try clear f_2); have f_2 := z; clear z); try (apply ck hb1 (w.heap.size + 1 + 1) 0; (focus (go_simp; rfl)); intro z; (try clear c_2_0); have c_2_0 := z; clear z; try (apply ck hb1 (w.heap.size + 1 + 1) 1; (focus (go_simp; rfl)); intro z; (try clear c_2_1); have c_2_1 := z; clear z)); try (have _ : w.heap.size + 1 + 1 + 1 < w1.heap.size := (by omega); try (apply fk hb1 (w.heap.size + 1 + 1 + 1); (focus (go_simp; rfl)); (focus (intro o; go_simp)); intro z; (try clear f_3); have f_3 := z; clear z); try (apply ck hb1 (w.heap.size + 1 + 1 + 1) 0; (focus (go_simp; rfl)); intro z; (try clear c_3_0); have c_3_0 := z; clear z; try (apply ck hb1 (w.heap.size + 1 + 1 + 1) 1; (focus (go_simp; rfl)); intro z; (try clear c_3_1); have c_3_1 := z; clear z)); try (have _ : w.heap.size + 1 + 1 + 1 + 1 < w1.heap.size := (by omega); try (apply fk hb1 (w.heap.size + 1 + 1 + 1 + 1); (focus (go_simp; rfl)); (focus (intro o; go_simp)); intro z; (try clear f_4); have f_4 := z; clear z); try (apply ck hb1 (w.heap.size + 1 + 1 + 1 + 1) 0; (focus (go_simp; rfl)); intro z; (try clear c_4_0); have c_4_0 := z; clear z; try (apply ck hb1 (w.heap.size + 1 + 1 + 1 + 1) 1; (focus (go_simp; rfl)); intro z; (try clear c_4_1); have c_4_1 := z; clear z))))))); clear hle; try (apply old_keep (w0 := w) (w := w1); (focus ((repeat (first | (with_reducible exact Up.refl _) | (with_reducible assumption) | (with_reducible refine Up.alloc ?_ _) | (with_reducible refine Up.drew ?_) | ((with_reducible refine Up.set ?_ ?_ _); rotate_left; focus (first | omega | (simp; done) | (simp; omega))) | (with_reducible refine Up.drewN ?_ _) | (with_reducible refine Up.call ?_ (by with_reducible assumption)))))); intro y z; (try clear hUp); (try clear hOld); have hUp := y; have hOld := z; clear y z)))
            | ((go_at_call 36; (with_reducible refine (check_any _ _ _).mono ?_); rintro e w2 ⟨x2, hx2, rfl, hb2⟩ <;> (rw [Hc.out] at hx2; subst hx2)) <;> (have hle := Up.le hb2; (try simp only [World.size_alloc, World.size_setCell, World.size_drew, World.heap_drewN] at hle); try (have _ : w.heap.size < w2.heap.size := (by omega); try (apply fk hb2 (w.heap.size); (focus (go_simp; rfl)); (focus (intro o; go_simp)); intro z; (try clear f_0); have f_0 := z; clear z); try (apply ck hb2 (w.heap.size) 0; (focus (go_simp; rfl)); intro z; (try clear c_0_0); have c_0_0 := z; clear z; try (apply ck hb2 (w.heap.size) 1; (focus (go_simp; rfl)); intro z; (try clear c_0_1); have c_0_1 := z; clear z)); try (have _ : w.heap.size + 1 < w2.heap.size := (by omega); try (apply fk hb2 (w.heap.size + 1); (focus (go_simp; rfl)); (focus (intro o; go_simp)); intro z; (try clear f_1); have f_1 := z; clear z); try (apply ck hb2 (w.heap.size + 1) 0; (focus (go_simp; rfl)); intro z; (try clear c_1_0); have c_1_0 := z; clear z; try (apply ck hb2 (w.heap.size + 1) 1; (focus (go_simp; rfl)); intro z; (try clear c_1_1); have c_1_1 := z; clear z)); try (have _ : w.heap.size + 1 + 1 < w2.heap.size := (by omega); try (apply fk hb2 (w.heap.size + 1 + 1); (focus (go_simp; rfl)); (focus (intro o; go_simp)); intro z; (try clear f_2); have f_2 := z; clear z); try (apply ck hb2 (w.heap.size + 1 + 1) 0; (focus (go_simp; rfl)); intro z; (try clear c_2_0); have c_2_0 := z; clear z; try (apply ck hb2 (w.heap.size + 1 + 1) 1; (focus (go_simp; rfl)); intro z; (try clear c_2_1); have c_2_1 := z; clear z)); try (have _ : w.heap.size + 1 + 1 + 1 < w2.heap.size := (by omega); try (apply fk hb2 (w.heap.size + 1 + 1 + 1); (focus (go_simp; rfl)); (focus (intro o; go_simp)); intro z; (try clear f_3); have f_3 := z; clear z); try (apply ck hb2 (w.heap.size + 1 + 1 + 1) 0; (focus (go_simp; rfl)); intro z; (try clear c_3_0); have c_3_0 := z; clear z; try (apply ck hb2 (w.heap.size + 1 + 1 + 1) 1; (focus (go_simp; rfl)); intro z; (try clear c_3_1); have c_3_1 := z; clear z)); try (have _ : w.heap.size + 1 + 1 + 1 + 1 < w2.heap.size := (by omega); try (apply fk hb2 (w.heap.size + 1 + 1 + 1 + 1); (focus (go_simp; rfl)); (focus (intro o; go_simp)); intro z; (try clear f_4); have f_4 := z; clear z); try (apply ck hb2 (w.heap.size + 1 + 1 + 1 + 1) 0; (focus (go_simp; rfl)); intro z; (try clear c_4_0); have c_4_0 := z; clear z; try (apply ck hb2 (w.heap.size + 1 + 1 + 1 + 1) 1; (focus (go_simp; rfl)); intro z; (try clear c_4_1); have c_4_1 := z; clear z))))))); try (have _ : w1.heap.size < w2.heap.size := (by omega); try (apply fk hb2 (w1.heap.size); (focus (go_simp; rfl)); (focus (intro o; go_simp)); intro z; (try clear f1_0); have f1_0 := z; clear z); try (apply ck hb2 (w1.heap.size) 0; (focus (go_simp; rfl)); intro z; (try clear c1_0_0); have c1_0_0 := z; clear z; try (apply ck hb2 (w1.heap.size) 1; (focus (go_simp; rfl)); intro z; (try clear c1_0_1); have c1_0_1 := z; clear z)); try (have _ : w1.heap.size + 1 < w2.heap.size := (by omega); try (apply fk hb2 (w1.heap.size + 1); (focus (go_simp; rfl)); (focus (intro o; go_simp)); intro z; (try clear f1_1); have f1_1 := z; clear z); try (apply ck hb2 (w1.heap.size + 1) 0; (focus (go_simp; rfl)); intro z; (try clear c1_1_0); have c1_1_0 := z; clear z; try (apply ck hb2 (w1.heap.size + 1) 1; (focus (go_simp; rfl)); intro z; (try clear c1_1_1); have c1_1_1 := z; clear z)))); clear hle; try (apply old_keep (w0 := w) (w := w2); (focus ((repeat (first | (with_reducible exact Up.refl _) | (with_reducible assumption) | (with_reducible refine Up.alloc ?_ _) | (with_reducible refine Up.drew ?_) | ((with_reducible refine Up.set ?_ ?_ _); rotate_left; focus (first | omega | (simp; done) | (simp; omega))) | (with_reducible refine Up.drewN ?_ _) | (with_reducible refine Up.call ?_ (by with_reducible assumption)))))); intro y z; (try clear hUp); (try clear hOld); have hUp := y; have hOld := z; clear y z))))
          all_goals
            go_ret
            refine LawEnd.mk rfl ?_
            (repeat (first | (with_reducible exact Up.refl _) | (with_reducible assumption) | (with_reducible refine Up.alloc ?_ _) | (with_reducible refine Up.drew ?_) | ((with_reducible refine Up.set ?_ ?_ _); rotate_left; focus (first | omega | (simp; done) | (simp; omega))) | (with_reducible refine Up.drewN ?_ _) | (with_reducible refine Up.call ?_ (by with_reducible assumption))))
set_option maxRecDepth 100000 in
theorem newtonLine_lifted (os : Os) (started : os.Started) (H : Type) (enc : TypeId × Value → H) :
    ReturnsInHanded {} Try.checked os 12 .any (Rows.newtonLineSpec.pre6 enc Try.prog Try.f12 Rows.newtonLineRow.domain false) (Rows.newtonLineSpec.post enc Try.prog Try.f12 false true false false) := by
  refine returnsInHanded_of_change (C := Try.checked) Try.own started (by kernel_rfl) Try.func12
    (ChangeSpec.witness6 (enc := enc) (C := Try.checked) false ⟨#[], #[.int .i64 0, .agg #[.int .i64 0, .int .i64 0]], []⟩ 8 (by kernel_rfl) (by kernel_rfl) (by kernel_rfl) (by kernel_rfl)) ?_
  intro W base args ds gs before hval0 hW hcnd _
  have hval : ∀ (j : Nat) t v, Try.f12.params[j]? = some t → args[j]? = some v → Value.okWide Try.prog W .any base t v := hval0
  have hW' := hW
  obtain ⟨p, q, hA0, hV, rfl, hfz, hnd⟩ := hW
  have hA : DataW.TrodAll enc Try.prog W 0 (fun _ => true) true Try.f12.params.toList args.toList ds p := hA0
  rw [Try.params12] at hA hval
  obtain ⟨v0, v1, d0, d1, p0, p1, rfl, rfl, rfl, h0, h1⟩ := trodAll_two hA
  obtain ⟨rfl, rfl⟩ := trodVars_none hV
  obtain ⟨n0, rfl, w0⟩ := open_i64 Try.underlying3 (hval 0 3 _ rfl rfl) h0
  obtain ⟨lo1, hi1, rfl, w1a, w1b⟩ := open_span (ti := 3) Try.underlying27 rfl rfl Try.underlying3 (by kernel_rfl) Try.cellsSpan (hval 1 27 _ rfl rfl) h1
  clear hA0 hval0
  refine (newtonLine_walk n0 lo1 hi1 W w0 ⟨wf_I64 w1a, wf_I64 w1b⟩).mono fun e W' ⟨he, hu⟩ => ?_
  subst he
  exact ⟨_, rfl, law_post Try.laidOut rfl rfl Try.underlying4 (fun t ht => by simp [Try.params12] at ht; (try rcases ht with rfl | rfl); all_goals (first | (subst ht; exact ⟨by kernel_rfl, of_decide_eq_true (by kernel_rfl)⟩) | exact ⟨by kernel_rfl, of_decide_eq_true (by kernel_rfl)⟩)) hW' rfl rfl rfl hu⟩
theorem newtonLine_k1 : (Rows.newtonLineRow.inPlace == Try.pinned.checked.prog.inPlace 12) = true := by kernel_rfl
theorem newtonLine_k2 : (Rows.newtonLineRow.unfollowed == Try.pinned.checked.prog.unfollowed 12) = true := by kernel_rfl
theorem newtonLine_k3 : (Rows.newtonLineRow.recurses == Try.pinned.checked.prog.recurses 12) = true := by kernel_rfl
theorem newtonLine_k4 : (Rows.newtonLineRow.named == Try.pinned.checked.prog.varsNamed 12) = true := by kernel_rfl
theorem newtonLine_facts : joinedFacts Try.pinned.checked.prog 12 Try.f12 Rows.newtonLineSpec Rows.newtonLineRow = true :=
  joined_of _ _ _ _ _ Try.g1 Try.g2 Try.g3 Try.g4 Try.g5 Try.g6 Try.g7 Try.g8 Try.g9 newtonLine_k1 newtonLine_k2 newtonLine_k3 newtonLine_k4 (by kernel_rfl)
theorem newtonLine_holds : Rows.NewtonLineSaid :=
  OpenClaim.holds_of_wide 12 Try.f12 rfl rfl rfl rfl rfl rfl rfl ⟨rfl, rfl, rfl, rfl, rfl⟩ rfl rfl rfl rfl rfl (by kernel_rfl) Try.func12 newtonLine_facts
    (of_decide_eq_true (by kernel_rfl)) (by unfold Func.isWrapper; rw [if_neg (by decide +kernel)]; exact ⟨rfl, rfl⟩)
    (fun os started H enc _ => newtonLine_lifted os started H enc)
#print axioms newtonLine_holds
end Go.Proofs.Ytmnbgcbiaapldaa
