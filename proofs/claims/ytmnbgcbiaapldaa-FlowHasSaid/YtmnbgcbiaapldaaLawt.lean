/- FlowHas: each point of a path that begins in a box is in the box of its step. No condition. -/
import Derived.Test.YtmnbgcbiaapldaaFlowb
import Derived.Test.YtmnbgcbiaapldaaHask
import Derived.Test.YtmnbgcbiaapldaaLits
import Derived.Test.YtmnbgcbiaapldaaRowd
import Derived.Test.YtmnbgcbiaapldaaFacts

set_option linter.unusedVariables false
set_option linter.unusedSimpArgs false
namespace Go.Proofs.Ytmnbgcbiaapldaa
open Go.ChangeShapes Go.WideShapes Go.ChangeAt Go.RowKit Go.Joins Go.Deep

def oneD : Sy := ⟨[[⟨2000, 1, 0, 0⟩]], [⟨0, 0⟩]⟩
theorem fact_run : runF oneD [⟨1, 2⟩] 2 = .ok [[⟨1, 2⟩], [⟨2, 4⟩], [⟨4, 8⟩]] := by rfl
theorem rl_three {w : World} {b0 b1 : List Sp} {s : Sp} {v : Value} (h : rlNE RdS w (.ok [b0, b1, [s]]) v) : ∃ g o c g2 o2 c2, v = .tuple #[.slice (some ⟨g, o, none⟩) 3 c, .nilIface] ∧ g < w.heap.size ∧ g2 < w.heap.size ∧ w.cell? ⟨g, o + 2, none⟩ = some (.slice (some ⟨g2, o2, none⟩) 1 c2) ∧
    w.cell? ⟨g2, o2, none⟩ = some (.int .i64 s.lo) ∧ w.cell? ⟨g2, o2 + 1, none⟩ = some (.int .i64 s.hi) ∧ 3 ≤ c ∧ 1 ≤ c2 := by
  obtain ⟨A, c, rfl, hr, hc⟩ := rlNE_ok h
  obtain ⟨g, o, rfl, lg, cc⟩ := hr.at (by simp)
  obtain ⟨A2, c2, q1, q2, q3⟩ := cc 2 (by simp)
  obtain ⟨g2, o2, rfl, lg2, cc2⟩ := q3.at (by simp)
  obtain ⟨k1, k2⟩ := cc2 0 (by simp)
  exact ⟨g, o, c, g2, o2, c2, rfl, lg, lg2, q1, k1, k2, hc, q2⟩
set_option maxRecDepth 100000 in
set_option maxHeartbeats 4000000 in
theorem flowHas_walk (As Bs : Option Addr) (s : Sy) (cs es : Nat) (Ab : Option Addr) (b : List Sp) (cb : Nat) (Ax : Option Addr) (x : List Int) (cx : Nat) (Aq : Option Addr) (push : List (List Int)) (cq : Nat) (w : World) (hs : LY w As Bs s cs es) (hb : LS w Ab b cb) (hx : LI w Ax x cx) (hq : LII w Aq push cq) :
    Calls Try.prog 27 #[.agg #[.slice As s.next.length cs, .slice Bs s.push.length es], .slice Ab b.length cb, .slice Ax x.length cx, .slice Aq push.length cq] w (LawEnd w) := by
  have Rs := hid hs.ry; have Rb := hid hb.rd; have Rx := hid hx.rd; have Rq := hid hq.rd
  have Hpl := hid (show push.length ≤ 9223372036854775807 from Nat.le_trans hq.cap hq.max)
  clear hs hb hx hq
  have HF := hid (fun A B C W (hy : RY W A B oneD) (hr : RdS W C [⟨1, 2⟩]) => (run_any A B C oneD [⟨1, 2⟩] 2 1 1 1 W hy hr : Calls Try.prog 66 #[.agg #[.slice A 1 1, .slice B 1 1], .slice C 1 1, .int .i64 2] W (RetR (rlNE RdS) (runF oneD [⟨1, 2⟩] 2) W)))
  have hcase : (∃ e, pathF s x push = .error e) ∨ ∃ p, Hid (pathF s x push = .ok p) ∧ ((∃ e, runF s b push.length = .error e) ∨ ∃ l, Hid (runF s b push.length = .ok l) ∧ ((∃ e, hasF b x = .error e) ∨ hasF b x = .ok false ∨ (hasF b x = .ok true ∧ p.length ≤ 21 ∧ (((p.length : Int) != (l.length : Int)) = false) ∧ Hid (p.length = l.length) ∧ Hid (∀ i, i < p.length → hasF (l[i]?.getD []) (p[i]?.getD []) = .ok true)))) := by
    cases h1 : pathF s x push with
    | error e => exact .inl ⟨e, rfl⟩
    | ok p =>
      refine .inr ⟨p, rfl, ?_⟩
      cases h2 : runF s b push.length with
      | error e => exact .inl ⟨e, rfl⟩
      | ok l =>
        refine .inr ⟨l, rfl, ?_⟩
        cases h3 : hasF b x with
        | error e => exact .inl ⟨e, rfl⟩
        | ok v =>
          cases v with
          | false => exact .inr (.inl rfl)
          | true =>
            obtain ⟨k1, k2⟩ := flow_law h2 h3 h1
            have m1 := run_len _ _ _ (run_parts h2).2.2.2
            have m2 := (run_parts h2).2.1
            exact .inr (.inr ⟨rfl, by omega, by simp; omega, k1, k2⟩)
  rcases hcase with ⟨e2, h2⟩ | ⟨p, H2, ⟨e3, h3⟩ | ⟨l, H3, ⟨e4, h4⟩ | h4 | ⟨h4, hpl, dl, HL, HA⟩⟩⟩
  all_goals
    (try (have H2 := hid h2; clear h2))
    (try (have H3 := hid h3; clear h3))
    (try (have H4 := hid h4; clear h4))
    go_enter Try.func27, Try.ntmps27
    go_wp2_with (first
                        | ((go_at_call 84; (with_reducible refine (path_any _ _ _ _ s x push _ _ _ _ _ (Rs.out.up (by (repeat (first | (with_reducible exact Up.refl _) | (with_reducible assumption) | (with_reducible refine Up.alloc ?_ _) | (with_reducible refine Up.drew ?_) | ((with_reducible refine Up.set ?_ ?_ _); rotate_left; focus (first | omega | (simp; done) | (simp; omega))) | (with_reducible refine Up.drewN ?_ _) | (with_reducible refine Up.call ?_ (by with_reducible assumption)))))) (Rx.out.up (by (repeat (first | (with_reducible exact Up.refl _) | (with_reducible assumption) | (with_reducible refine Up.alloc ?_ _) | (with_reducible refine Up.drew ?_) | ((with_reducible refine Up.set ?_ ?_ _); rotate_left; focus (first | omega | (simp; done) | (simp; omega))) | (with_reducible refine Up.drewN ?_ _) | (with_reducible refine Up.call ?_ (by with_reducible assumption)))))) (RdII.up Rq.out (by (repeat (first | (with_reducible exact Up.refl _) | (with_reducible assumption) | (with_reducible refine Up.alloc ?_ _) | (with_reducible refine Up.drew ?_) | ((with_reducible refine Up.set ?_ ?_ _); rotate_left; focus (first | omega | (simp; done) | (simp; omega))) | (with_reducible refine Up.drewN ?_ _) | (with_reducible refine Up.call ?_ (by with_reducible assumption)))))) Hpl.out).mono ?_); rintro e w2 ⟨x2, v2, hx2, rfl, hv2, hb2⟩ <;> (rw [H2.out] at hx2; subst hx2; first | (obtain rfl := rlNE_error hv2; clear hv2) | (obtain ⟨A2, c2, rfl, hrd2, hc2⟩ := rlNE_ok hv2; have Hrd2 := hid hrd2; clear hv2 hrd2))) <;> (have hle := Up.le hb2; (try simp only [World.size_alloc, World.size_setCell, World.size_drew, World.heap_drewN] at hle); (try (have _ : w.heap.size < w2.heap.size := (by omega); (try (apply fk hb2 (w.heap.size); (focus (go_simp; rfl)); (focus (intro o; go_simp)); intro z; (try clear f_0); have f_0 := z; clear z)); (try (apply ck hb2 (w.heap.size) 0; (focus (go_simp; rfl)); intro z; (try clear c_0_0); have c_0_0 := z; clear z; (try (apply ck hb2 (w.heap.size) 1; (focus (go_simp; rfl)); intro z; (try clear c_0_1); have c_0_1 := z; clear z)))))); (try (have _ : w1.heap.size < w2.heap.size := (by omega); (try (apply fk hb2 (w1.heap.size); (focus (go_simp; rfl)); (focus (intro o; go_simp)); intro z; (try clear f1_0); have f1_0 := z; clear z)); (try (apply ck hb2 (w1.heap.size) 0; (focus (go_simp; rfl)); intro z; (try clear c1_0_0); have c1_0_0 := z; clear z; (try (apply ck hb2 (w1.heap.size) 1; (focus (go_simp; rfl)); intro z; (try clear c1_0_1); have c1_0_1 := z; clear z)))); (try (have _ : w1.heap.size + 1 < w2.heap.size := (by omega); (try (apply fk hb2 (w1.heap.size + 1); (focus (go_simp; rfl)); (focus (intro o; go_simp)); intro z; (try clear f1_1); have f1_1 := z; clear z)); (try (apply ck hb2 (w1.heap.size + 1) 0; (focus (go_simp; rfl)); intro z; (try clear c1_1_0); have c1_1_0 := z; clear z; (try (apply ck hb2 (w1.heap.size + 1) 1; (focus (go_simp; rfl)); intro z; (try clear c1_1_1); have c1_1_1 := z; clear z)))))))); clear hle; (try (apply old_keep (w0 := w) (w := w2); (focus ((repeat (first | (with_reducible exact Up.refl _) | (with_reducible assumption) | (with_reducible refine Up.alloc ?_ _) | (with_reducible refine Up.drew ?_) | ((with_reducible refine Up.set ?_ ?_ _); rotate_left; focus (first | omega | (simp; done) | (simp; omega))) | (with_reducible refine Up.drewN ?_ _) | (with_reducible refine Up.call ?_ (by with_reducible assumption)))))); intro y z; (try clear hUp); (try clear hOld); have hUp := y; have hOld := z; clear y z))))
                        | ((go_at_call 66; (with_reducible refine (run_any _ _ _ s b push.length _ _ _ _ (Rs.out.up (by (repeat (first | (with_reducible exact Up.refl _) | (with_reducible assumption) | (with_reducible refine Up.alloc ?_ _) | (with_reducible refine Up.drew ?_) | ((with_reducible refine Up.set ?_ ?_ _); rotate_left; focus (first | omega | (simp; done) | (simp; omega))) | (with_reducible refine Up.drewN ?_ _) | (with_reducible refine Up.call ?_ (by with_reducible assumption)))))) (Rb.out.up (by (repeat (first | (with_reducible exact Up.refl _) | (with_reducible assumption) | (with_reducible refine Up.alloc ?_ _) | (with_reducible refine Up.drew ?_) | ((with_reducible refine Up.set ?_ ?_ _); rotate_left; focus (first | omega | (simp; done) | (simp; omega))) | (with_reducible refine Up.drewN ?_ _) | (with_reducible refine Up.call ?_ (by with_reducible assumption))))))).mono ?_); rintro e w3 ⟨x3, v3, hx3, rfl, hv3, hb3⟩ <;> (rw [H3.out] at hx3; subst hx3; first | (obtain rfl := rlNE_error hv3; clear hv3) | (obtain ⟨A3, c3, rfl, hrd3, hc3⟩ := rlNE_ok hv3; have Hrd3 := hid hrd3; clear hv3 hrd3))) <;> (have hle := Up.le hb3; (try simp only [World.size_alloc, World.size_setCell, World.size_drew, World.heap_drewN] at hle); (try (have _ : w.heap.size < w3.heap.size := (by omega); (try (apply fk hb3 (w.heap.size); (focus (go_simp; rfl)); (focus (intro o; go_simp)); intro z; (try clear f_0); have f_0 := z; clear z)); (try (apply ck hb3 (w.heap.size) 0; (focus (go_simp; rfl)); intro z; (try clear c_0_0); have c_0_0 := z; clear z; (try (apply ck hb3 (w.heap.size) 1; (focus (go_simp; rfl)); intro z; (try clear c_0_1); have c_0_1 := z; clear z)))))); (try (have _ : w1.heap.size < w3.heap.size := (by omega); (try (apply fk hb3 (w1.heap.size); (focus (go_simp; rfl)); (focus (intro o; go_simp)); intro z; (try clear f1_0); have f1_0 := z; clear z)); (try (apply ck hb3 (w1.heap.size) 0; (focus (go_simp; rfl)); intro z; (try clear c1_0_0); have c1_0_0 := z; clear z; (try (apply ck hb3 (w1.heap.size) 1; (focus (go_simp; rfl)); intro z; (try clear c1_0_1); have c1_0_1 := z; clear z)))); (try (have _ : w1.heap.size + 1 < w3.heap.size := (by omega); (try (apply fk hb3 (w1.heap.size + 1); (focus (go_simp; rfl)); (focus (intro o; go_simp)); intro z; (try clear f1_1); have f1_1 := z; clear z)); (try (apply ck hb3 (w1.heap.size + 1) 0; (focus (go_simp; rfl)); intro z; (try clear c1_1_0); have c1_1_0 := z; clear z; (try (apply ck hb3 (w1.heap.size + 1) 1; (focus (go_simp; rfl)); intro z; (try clear c1_1_1); have c1_1_1 := z; clear z)))))))); (try (have _ : w2.heap.size < w3.heap.size := (by omega); (try (apply fk hb3 (w2.heap.size); (focus (go_simp; rfl)); (focus (intro o; go_simp)); intro z; (try clear f2_0); have f2_0 := z; clear z)); (try (apply ck hb3 (w2.heap.size) 0; (focus (go_simp; rfl)); intro z; (try clear c2_0_0); have c2_0_0 := z; clear z; (try (apply ck hb3 (w2.heap.size) 1; (focus (go_simp; rfl)); intro z; (try clear c2_0_1); have c2_0_1 := z; clear z)))); (try (have _ : w2.heap.size + 1 < w3.heap.size := (by omega); (try (apply fk hb3 (w2.heap.size + 1); (focus (go_simp; rfl)); (focus (intro o; go_simp)); intro z; (try clear f2_1); have f2_1 := z; clear z)); (try (apply ck hb3 (w2.heap.size + 1) 0; (focus (go_simp; rfl)); intro z; (try clear c2_1_0); have c2_1_0 := z; clear z; (try (apply ck hb3 (w2.heap.size + 1) 1; (focus (go_simp; rfl)); intro z; (try clear c2_1_1); have c2_1_1 := z; clear z)))))))); clear hle; (try (apply old_keep (w0 := w) (w := w3); (focus ((repeat (first | (with_reducible exact Up.refl _) | (with_reducible assumption) | (with_reducible refine Up.alloc ?_ _) | (with_reducible refine Up.drew ?_) | ((with_reducible refine Up.set ?_ ?_ _); rotate_left; focus (first | omega | (simp; done) | (simp; omega))) | (with_reducible refine Up.drewN ?_ _) | (with_reducible refine Up.call ?_ (by with_reducible assumption)))))); intro y z; (try clear hUp); (try clear hOld); have hUp := y; have hOld := z; clear y z))))
                        | ((go_at_call 42; (with_reducible refine (bhas_any _ _ b x _ _ _ (Rb.out.up (by (repeat (first | (with_reducible exact Up.refl _) | (with_reducible assumption) | (with_reducible refine Up.alloc ?_ _) | (with_reducible refine Up.drew ?_) | ((with_reducible refine Up.set ?_ ?_ _); rotate_left; focus (first | omega | (simp; done) | (simp; omega))) | (with_reducible refine Up.drewN ?_ _) | (with_reducible refine Up.call ?_ (by with_reducible assumption)))))) (Rx.out.up (by (repeat (first | (with_reducible exact Up.refl _) | (with_reducible assumption) | (with_reducible refine Up.alloc ?_ _) | (with_reducible refine Up.drew ?_) | ((with_reducible refine Up.set ?_ ?_ _); rotate_left; focus (first | omega | (simp; done) | (simp; omega))) | (with_reducible refine Up.drewN ?_ _) | (with_reducible refine Up.call ?_ (by with_reducible assumption))))))).mono ?_); rintro e w4 ⟨x4, hx4, rfl, hb4⟩ <;> (rw [H4.out] at hx4; subst hx4)) <;> (have hle := Up.le hb4; (try simp only [World.size_alloc, World.size_setCell, World.size_drew, World.heap_drewN] at hle); (try (have _ : w.heap.size < w4.heap.size := (by omega); (try (apply fk hb4 (w.heap.size); (focus (go_simp; rfl)); (focus (intro o; go_simp)); intro z; (try clear f_0); have f_0 := z; clear z)); (try (apply ck hb4 (w.heap.size) 0; (focus (go_simp; rfl)); intro z; (try clear c_0_0); have c_0_0 := z; clear z; (try (apply ck hb4 (w.heap.size) 1; (focus (go_simp; rfl)); intro z; (try clear c_0_1); have c_0_1 := z; clear z)))))); (try (have _ : w1.heap.size < w4.heap.size := (by omega); (try (apply fk hb4 (w1.heap.size); (focus (go_simp; rfl)); (focus (intro o; go_simp)); intro z; (try clear f1_0); have f1_0 := z; clear z)); (try (apply ck hb4 (w1.heap.size) 0; (focus (go_simp; rfl)); intro z; (try clear c1_0_0); have c1_0_0 := z; clear z; (try (apply ck hb4 (w1.heap.size) 1; (focus (go_simp; rfl)); intro z; (try clear c1_0_1); have c1_0_1 := z; clear z)))); (try (have _ : w1.heap.size + 1 < w4.heap.size := (by omega); (try (apply fk hb4 (w1.heap.size + 1); (focus (go_simp; rfl)); (focus (intro o; go_simp)); intro z; (try clear f1_1); have f1_1 := z; clear z)); (try (apply ck hb4 (w1.heap.size + 1) 0; (focus (go_simp; rfl)); intro z; (try clear c1_1_0); have c1_1_0 := z; clear z; (try (apply ck hb4 (w1.heap.size + 1) 1; (focus (go_simp; rfl)); intro z; (try clear c1_1_1); have c1_1_1 := z; clear z)))))))); (try (have _ : w2.heap.size < w4.heap.size := (by omega); (try (apply fk hb4 (w2.heap.size); (focus (go_simp; rfl)); (focus (intro o; go_simp)); intro z; (try clear f2_0); have f2_0 := z; clear z)); (try (apply ck hb4 (w2.heap.size) 0; (focus (go_simp; rfl)); intro z; (try clear c2_0_0); have c2_0_0 := z; clear z; (try (apply ck hb4 (w2.heap.size) 1; (focus (go_simp; rfl)); intro z; (try clear c2_0_1); have c2_0_1 := z; clear z)))); (try (have _ : w2.heap.size + 1 < w4.heap.size := (by omega); (try (apply fk hb4 (w2.heap.size + 1); (focus (go_simp; rfl)); (focus (intro o; go_simp)); intro z; (try clear f2_1); have f2_1 := z; clear z)); (try (apply ck hb4 (w2.heap.size + 1) 0; (focus (go_simp; rfl)); intro z; (try clear c2_1_0); have c2_1_0 := z; clear z; (try (apply ck hb4 (w2.heap.size + 1) 1; (focus (go_simp; rfl)); intro z; (try clear c2_1_1); have c2_1_1 := z; clear z)))))))); (try (have _ : w3.heap.size < w4.heap.size := (by omega); (try (apply fk hb4 (w3.heap.size); (focus (go_simp; rfl)); (focus (intro o; go_simp)); intro z; (try clear f3_0); have f3_0 := z; clear z)); (try (apply ck hb4 (w3.heap.size) 0; (focus (go_simp; rfl)); intro z; (try clear c3_0_0); have c3_0_0 := z; clear z; (try (apply ck hb4 (w3.heap.size) 1; (focus (go_simp; rfl)); intro z; (try clear c3_0_1); have c3_0_1 := z; clear z)))); (try (have _ : w3.heap.size + 1 < w4.heap.size := (by omega); (try (apply fk hb4 (w3.heap.size + 1); (focus (go_simp; rfl)); (focus (intro o; go_simp)); intro z; (try clear f3_1); have f3_1 := z; clear z)); (try (apply ck hb4 (w3.heap.size + 1) 0; (focus (go_simp; rfl)); intro z; (try clear c3_1_0); have c3_1_0 := z; clear z; (try (apply ck hb4 (w3.heap.size + 1) 1; (focus (go_simp; rfl)); intro z; (try clear c3_1_1); have c3_1_1 := z; clear z)))))))); clear hle; (try (apply old_keep (w0 := w) (w := w4); (focus ((repeat (first | (with_reducible exact Up.refl _) | (with_reducible assumption) | (with_reducible refine Up.alloc ?_ _) | (with_reducible refine Up.drew ?_) | ((with_reducible refine Up.set ?_ ?_ _); rotate_left; focus (first | omega | (simp; done) | (simp; omega))) | (with_reducible refine Up.drewN ?_ _) | (with_reducible refine Up.call ?_ (by with_reducible assumption)))))); intro y z; (try clear hUp); (try clear hOld); have hUp := y; have hOld := z; clear y z))))
                        | ((go_at_call 66; (refine (HF.out _ _ _ _ ⟨rdn1 (by go_simp; rfl) (rdt1 (by go_simp) (by go_simp) (by go_simp) (by go_simp)), rds1 (by go_simp) (by go_simp)⟩ (rds1 (by go_simp) (by go_simp))).mono ?_); rintro e w1 ⟨x1, v1, hx1, rfl, hv1, hb1⟩ <;> (rw [fact_run] at hx1; subst hx1; obtain ⟨g1, o1, c1, g12, o12, c12, rfl, lg1, lg12, cg0, cg1, cg2, hc1, hc12⟩ := rl_three hv1; clear hv1)) <;> (have hle := Up.le hb1; (try simp only [World.size_alloc, World.size_setCell, World.size_drew, World.heap_drewN] at hle); (try (have _ : w.heap.size < w1.heap.size := (by omega); (try (apply fk hb1 (w.heap.size); (focus (go_simp; rfl)); (focus (intro o; go_simp)); intro z; (try clear f_0); have f_0 := z; clear z)); (try (apply ck hb1 (w.heap.size) 0; (focus (go_simp; rfl)); intro z; (try clear c_0_0); have c_0_0 := z; clear z; (try (apply ck hb1 (w.heap.size) 1; (focus (go_simp; rfl)); intro z; (try clear c_0_1); have c_0_1 := z; clear z)))))); clear hle; (try (apply old_keep (w0 := w) (w := w1); (focus ((repeat (first | (with_reducible exact Up.refl _) | (with_reducible assumption) | (with_reducible refine Up.alloc ?_ _) | (with_reducible refine Up.drew ?_) | ((with_reducible refine Up.set ?_ ?_ _); rotate_left; focus (first | omega | (simp; done) | (simp; omega))) | (with_reducible refine Up.drewN ?_ _) | (with_reducible refine Up.call ?_ (by with_reducible assumption)))))); intro y z; (try clear hUp); (try clear hOld); have hUp := y; have hOld := z; clear y z)))))
    try
      all_goals
        go_ret
        refine LawEnd.mk rfl ?_
        (repeat (first | (with_reducible exact Up.refl _) | (with_reducible assumption) | (with_reducible refine Up.alloc ?_ _) | (with_reducible refine Up.drew ?_) | ((with_reducible refine Up.set ?_ ?_ _); rotate_left; focus (first | omega | (simp; done) | (simp; omega))) | (with_reducible refine Up.drewN ?_ _) | (with_reducible refine Up.call ?_ (by with_reducible assumption))))
        done
  have HU4 := hid (show Up w w4 by (repeat (first | (with_reducible exact Up.refl _) | (with_reducible assumption) | (with_reducible refine Up.alloc ?_ _) | (with_reducible refine Up.drew ?_) | ((with_reducible refine Up.set ?_ ?_ _); rotate_left; focus (first | omega | (simp; done) | (simp; omega))) | (with_reducible refine Up.drewN ?_ _) | (with_reducible refine Up.call ?_ (by with_reducible assumption)))))
  have Hp4 := hid (RdII.up Hrd2.out (show Up w2 w4 by clear hUp; (repeat (first | (with_reducible exact Up.refl _) | (with_reducible assumption) | (with_reducible refine Up.alloc ?_ _) | (with_reducible refine Up.drew ?_) | ((with_reducible refine Up.set ?_ ?_ _); rotate_left; focus (first | omega | (simp; done) | (simp; omega))) | (with_reducible refine Up.drewN ?_ _) | (with_reducible refine Up.call ?_ (by with_reducible assumption))))))
  have Hl4 := hid (RdB.up Hrd3.out (show Up w3 w4 by clear hUp; (repeat (first | (with_reducible exact Up.refl _) | (with_reducible assumption) | (with_reducible refine Up.alloc ?_ _) | (with_reducible refine Up.drew ?_) | ((with_reducible refine Up.set ?_ ?_ _); rotate_left; focus (first | omega | (simp; done) | (simp; omega))) | (with_reducible refine Up.drewN ?_ _) | (with_reducible refine Up.call ?_ (by with_reducible assumption))))))
  go_loopw [16] (fun i wr => ∃ k : Nat, k ≤ p.length ∧ i = .int .i64 k ∧ Up w4 wr) (fun i _ => p.length - (intOf i).toNat)
  case atStart => exact ⟨0, by omega, rfl, Up.refl _⟩
  case round =>
    obtain ⟨k, hk, rfl, hU⟩ := hrel
    have gr := (bcell hU).1
    have hle := hU.le
    by_cases hlt : k < p.length
    · have hlt2 : k < l.length := by have := HL.out; omega
      obtain ⟨b1, o1, rfl, lb, cc⟩ := (Hp4.out).at (by omega)
      obtain ⟨A6, c6, q1, q2, q3⟩ := cc k hlt
      obtain ⟨b2, o2, rfl, lb2, cc2⟩ := (Hl4.out).at (by omega)
      obtain ⟨A7, c7, r1, r2, r3⟩ := cc2 k hlt2
      have j1 := (gr _ _ lb).trans q1
      have j2 := (gr _ _ lb2).trans r1
      have _ : b1 < wr.heap.size := by omega
      have _ : b2 < wr.heap.size := by omega
      have Hq3 := hid q3; have Hr3 := hid r3
      have Hh := hid (HA.out k hlt)
      have Hlt := hid hlt
      have hdk : decide ((k : Int) < (p.length : Int)) = true := by simp; omega
      have hk0 : (0 : Int) ≤ (k : Int) := by omega
      have hkp : (k : Int) < (p.length : Int) := by omega
      have hkl : (k : Int) < (l.length : Int) := by omega
      have hk9 : (k : Int) < 21 := by omega
      generalize p[k]?.getD [] = pk at *
      generalize l[k]?.getD [] = lk at *
      clear gr hlt cc cc2 q1 q2 q3 r1 r2 r3
      go_wp2_with fail
      go_region_law (go_simp; (go_at_call 42; refine (bhas_any _ _ lk pk _ _ _ (Hr3.out.up (by (repeat (first | (with_reducible exact Up.refl _) | (with_reducible assumption) | (with_reducible refine Up.alloc ?_ _) | (with_reducible refine Up.drew ?_) | ((with_reducible refine Up.set ?_ ?_ _); rotate_left; focus (first | omega | (simp; done) | (simp; omega))) | (with_reducible refine Up.drewN ?_ _) | (with_reducible refine Up.call ?_ (by with_reducible assumption)))))) (Hq3.out.up (by (repeat (first | (with_reducible exact Up.refl _) | (with_reducible assumption) | (with_reducible refine Up.alloc ?_ _) | (with_reducible refine Up.drew ?_) | ((with_reducible refine Up.set ?_ ?_ _); rotate_left; focus (first | omega | (simp; done) | (simp; omega))) | (with_reducible refine Up.drewN ?_ _) | (with_reducible refine Up.call ?_ (by with_reducible assumption))))))).mono ?_; rintro e w6 ⟨x6, hx6, rfl, hb6⟩); rw [Hh.out] at hx6; subst hx6)
      all_goals go_wp2
      all_goals
        go_roundw
        case rel =>
          refine ⟨k + 1, by have := Hlt.out; omega, by go_num, ?_⟩
          (repeat (first | (with_reducible exact Up.refl _) | (with_reducible assumption) | (with_reducible refine Up.alloc ?_ _) | (with_reducible refine Up.drew ?_) | ((with_reducible refine Up.set ?_ ?_ _); rotate_left; focus (first | omega | (simp; done) | (simp; omega))) | (with_reducible refine Up.drewN ?_ _) | (with_reducible refine Up.call ?_ (by with_reducible assumption))))
        case measure => have := Hlt.out; simp [intOf]; omega
    · obtain rfl : k = p.length := by omega
      have HU := hid (HU4.out.call hU)
      clear gr hU
      go_wp2
      go_ret
      exact LawEnd.mk rfl HU.out
set_option maxRecDepth 100000 in
theorem flowHas_lifted (os : Os) (started : os.Started) (H : Type) (enc : TypeId × Value → H) :
    ReturnsInHanded {} Try.checked os 27 .any (Rows.flowHasSpec.pre6 enc Try.prog Try.f27 Rows.flowHasRow.domain false) (Rows.flowHasSpec.post enc Try.prog Try.f27 false true false false) := by
  refine returnsInHanded_of_change (C := Try.checked) Try.own started (by kernel_rfl) Try.func27
    (ChangeSpec.witness6 (enc := enc) (C := Try.checked) false ⟨#[], #[.agg #[.slice none 0 0, .slice none 0 0], .slice none 0 0, .slice none 0 0, .slice none 0 0], []⟩ 8 (by kernel_rfl) (by kernel_rfl) (by kernel_rfl) (by kernel_rfl)) ?_
  intro W base args ds gs before hval0 hW hcnd _
  have hval : ∀ (j : Nat) t v, Try.f27.params[j]? = some t → args[j]? = some v → Value.okWide Try.prog W .any base t v := hval0
  have hW' := hW
  obtain ⟨p, q, hA0, hV, rfl, hfz, hnd⟩ := hW
  have hA : DataW.TrodAll enc Try.prog W 0 (fun _ => true) true Try.f27.params.toList args.toList ds p := hA0
  rw [Try.params27] at hA hval
  obtain ⟨v0, v1, v2, v3, d0, d1, d2, d3, p0, p1, p2, p3, rfl, rfl, rfl, h0, h1, h2, h3⟩ := trodAll_four hA
  obtain ⟨rfl, rfl⟩ := trodVars_none hV
  obtain ⟨A0, B0, s0, c0, e0, rfl, w0⟩ := open_sys (hval 0 76 _ rfl rfl) h0
  obtain ⟨A1, b1, c1, rfl, w1⟩ := open_slist (ti := 3) Try.underlying39 Try.underlying27 Try.cellsSpan rfl rfl rfl rfl Try.underlying3 Try.cellsInt (hval 1 39 _ rfl rfl) h1
  obtain ⟨A2, l2, c2, rfl, w2⟩ := open_ilist Try.underlying38 Try.underlying3 Try.cellsInt (hval 2 38 _ rfl rfl) h2
  obtain ⟨A3, l3, c3, rfl, w3⟩ := open_ilists (hval 3 101 _ rfl rfl) h3
  clear hA0 hval0
  refine (flowHas_walk A0 B0 s0 c0 e0 A1 b1 c1 A2 l2 c2 A3 l3 c3 W w0 w1 w2 w3).mono fun e W' ⟨he, hu⟩ => ?_
  subst he
  exact ⟨_, rfl, law_post Try.laidOut rfl rfl Try.underlying4 (fun t ht => by simp [Try.params27] at ht; (try rcases ht with rfl | rfl | rfl | rfl); all_goals (first | (subst ht; exact ⟨by kernel_rfl, of_decide_eq_true (by kernel_rfl)⟩) | exact ⟨by kernel_rfl, of_decide_eq_true (by kernel_rfl)⟩)) hW' rfl rfl rfl hu⟩
theorem flowHas_k1 : (Rows.flowHasRow.inPlace == Try.pinned.checked.prog.inPlace 27) = true := by kernel_rfl
theorem flowHas_k2 : (Rows.flowHasRow.unfollowed == Try.pinned.checked.prog.unfollowed 27) = true := by kernel_rfl
theorem flowHas_k3 : (Rows.flowHasRow.recurses == Try.pinned.checked.prog.recurses 27) = true := by kernel_rfl
theorem flowHas_k4 : (Rows.flowHasRow.named == Try.pinned.checked.prog.varsNamed 27) = true := by kernel_rfl
theorem flowHas_facts : joinedFacts Try.pinned.checked.prog 27 Try.f27 Rows.flowHasSpec Rows.flowHasRow = true :=
  joined_of _ _ _ _ _ Try.g1 Try.g2 Try.g3 Try.g4 Try.g5 Try.g6 Try.g7 Try.g8 Try.g9 flowHas_k1 flowHas_k2 flowHas_k3 flowHas_k4 (by kernel_rfl)
theorem flowHas_holds : Rows.FlowHasSaid :=
  OpenClaim.holds_of_wide 27 Try.f27 rfl rfl rfl rfl rfl rfl rfl ⟨rfl, rfl, rfl, rfl, rfl⟩ rfl rfl rfl rfl rfl (by kernel_rfl) Try.func27 flowHas_facts
    (of_decide_eq_true (by kernel_rfl)) (by unfold Func.isWrapper; rw [if_neg (by decide +kernel)]; exact ⟨rfl, rfl⟩)
    (fun os started H enc _ => flowHas_lifted os started H enc)
#print axioms flowHas_holds
end Go.Proofs.Ytmnbgcbiaapldaa
