/- The walk of form.one. -/
import Derived.Test.YtmjcnpolnknkkaaGreatDoorForm
import Derived.Test.YtmjcnpolnknkkaaGreatDoorBox
import Derived.Test.YtmjcnpolnknkkaaGreatDoorPolyb
import Derived.Test.YtmjcnpolnknkkaaGreatDoorHas
import Derived.Deep.RegionWith

set_option linter.unusedVariables false
set_option linter.unusedSimpArgs false
namespace Go.Proofs.YtmjcnpolnknkkaaGreatDoor
open Go.RowKit

theorem oneG_bad1 {t : Tm} {k : Nat} {s x : Sp} {l : List Sp} {e : Nat} (h : raisedF x (t.time k).toNat = .error e) : oneG t k s (x :: l) = .error e := by
  unfold oneG; rw [h]
theorem oneG_bad2 {t : Tm} {k : Nat} {s x r : Sp} {l : List Sp} {e : Nat} (h : raisedF x (t.time k).toNat = .ok r) (h2 : prodF s r = .error e) : oneG t k s (x :: l) = .error e := by
  unfold oneG; rw [h]; dsimp only; rw [h2]
theorem oneG_good {t : Tm} {k : Nat} {s x r u : Sp} {l : List Sp} (h : raisedF x (t.time k).toNat = .ok r) (h2 : prodF s r = .ok u) : oneG t k s (x :: l) = oneG t (k + 1) u l := by
  conv => lhs; unfold oneG
  rw [h]
  dsimp only
  rw [h2]
set_option maxRecDepth 100000 in
set_option maxHeartbeats 4000000 in
theorem one_any (t : Tm) (A : Option Addr) (b : List Sp) (c : Nat) (w : World) (kk : Nat) (hr : RdS w A b) (h3 : b.length ≤ 3) (hs : ∀ s ∈ b, Rt s) (hc : tcheckF t kk = none) :
    Calls Tryz.prog 150 #[.agg #[.int .i64 t.by_, .int .i64 t.t0, .int .i64 t.t1, .int .i64 t.t2], .slice A b.length c] w (RetX spR (oneF t b) w) := by
  obtain ⟨h1, -, hM⟩ := tcheck_ok hc
  have Hr := hid hr
  have HM := hid hM; have H1 := hid h1
  have Hs := hid (fun k (hk : k < b.length) => hs (b[k]?.getD ⟨0, 0⟩) (by rw [List.getElem?_eq_getElem hk]; exact List.getElem_mem hk))
  clear hr hs hc h1 hM
  go_enter Tryz.func150, Tryz.ntmps150
  go_wp2_with (first
                        | ((go_at_call 142; (with_reducible refine (alone_any _ _).mono ?_); rintro e w1 ⟨x1, hx1, rfl, hb1⟩ <;> (subst hx1)) <;> (have hle := Up.le hb1; (try simp only [World.size_alloc, World.size_setCell, World.size_drew, World.heap_drewN] at hle); (try (have _ : w.heap.size < w1.heap.size := (by omega); (try (apply fk hb1 (w.heap.size); (focus (go_simp; rfl)); (focus (intro o; go_simp)); intro z; (try clear f_0); have f_0 := z; clear z)); (try (apply ck hb1 (w.heap.size) 0; (focus (go_simp; rfl)); intro z; (try clear c_0_0); have c_0_0 := z; clear z; (try (apply ck hb1 (w.heap.size) 1; (focus (go_simp; rfl)); intro z; (try clear c_0_1); have c_0_1 := z; clear z; (try (apply ck hb1 (w.heap.size) 2; (focus (go_simp; rfl)); intro z; (try clear c_0_2); have c_0_2 := z; clear z; (try (apply ck hb1 (w.heap.size) 3; (focus (go_simp; rfl)); intro z; (try clear c_0_3); have c_0_3 := z; clear z)))))))); (try (have _ : w.heap.size + 1 < w1.heap.size := (by omega); (try (apply fk hb1 (w.heap.size + 1); (focus (go_simp; rfl)); (focus (intro o; go_simp)); intro z; (try clear f_1); have f_1 := z; clear z)); (try (apply ck hb1 (w.heap.size + 1) 0; (focus (go_simp; rfl)); intro z; (try clear c_1_0); have c_1_0 := z; clear z; (try (apply ck hb1 (w.heap.size + 1) 1; (focus (go_simp; rfl)); intro z; (try clear c_1_1); have c_1_1 := z; clear z; (try (apply ck hb1 (w.heap.size + 1) 2; (focus (go_simp; rfl)); intro z; (try clear c_1_2); have c_1_2 := z; clear z; (try (apply ck hb1 (w.heap.size + 1) 3; (focus (go_simp; rfl)); intro z; (try clear c_1_3); have c_1_3 := z; clear z)))))))))))); clear hle; (try (apply old_keep (w0 := w) (w := w1); (focus ((repeat (first | (with_reducible exact Up.refl _) | (with_reducible assumption) | (with_reducible refine Up.alloc ?_ _) | (with_reducible refine Up.drew ?_) | ((with_reducible refine Up.set ?_ ?_ _); rotate_left; focus (first | omega | (simp; done) | (simp; omega))) | (with_reducible refine Up.drewN ?_ _) | (with_reducible refine Up.call ?_ (by with_reducible assumption)))))); intro y z; (try clear hUp); (try clear hOld); have hUp := y; have hOld := z; clear y z)))))
  have hDle : w.heap.size ≤ w1.heap.size := by omega
  go_loopw [16] (fun i wr => ∃ (k : Nat) (s : Sp), k ≤ b.length ∧ i = .int .i64 k ∧ Hid (oneF t b = oneG t k s (b.drop k)) ∧ M s.lo ∧ M s.hi ∧ Up w wr ∧
    (Cf wr w.heap.size 0 (.int .i64 t.by_) ∧ Cf wr w.heap.size 1 (.int .i64 t.t0) ∧ Cf wr w.heap.size 2 (.int .i64 t.t1) ∧ Cf wr w.heap.size 3 (.int .i64 t.t2)) ∧ (Cf wr (w.heap.size + 1) 0 (.int .i64 0) ∧ Cf wr (w.heap.size + 1) 1 (.int .i64 0)) ∧ (Cf wr w1.heap.size 0 (.int .i64 s.lo) ∧ Cf wr w1.heap.size 1 (.int .i64 s.hi)))
    (fun i _ => b.length - (intOf i).toNat)
  case atStart =>
    refine ⟨0, ⟨t.by_, t.by_⟩, by omega, rfl, rfl, HM.out, HM.out, ?_, ⟨⟨by go_simp, by go_simp⟩, ⟨by go_simp, by go_simp⟩, ⟨by go_simp, by go_simp⟩, ⟨by go_simp, by go_simp⟩⟩, ⟨⟨by go_simp, by go_simp⟩, ⟨by go_simp, by go_simp⟩⟩, ⟨⟨by go_simp, by go_simp⟩, ⟨by go_simp, by go_simp⟩⟩⟩
    (repeat (first | (with_reducible exact Up.refl _) | (with_reducible assumption) | (with_reducible refine Up.alloc ?_ _) | (with_reducible refine Up.drew ?_) | ((with_reducible refine Up.set ?_ ?_ _); rotate_left; focus (first | omega | (simp; done) | (simp; omega))) | (with_reducible refine Up.drewN ?_ _) | (with_reducible refine Up.call ?_ (by with_reducible assumption))))
  case round =>
    obtain ⟨k, s, hk, rfl, H, m1, m2, hU, ⟨⟨c0, g0⟩, ⟨c1, g1⟩, ⟨c2, g2⟩, ⟨c3, g3⟩⟩, ⟨⟨c4, g4⟩, ⟨c5, g5⟩⟩, ⟨⟨c6, g6⟩, ⟨c7, g7⟩⟩⟩ := hrel
    have gr := (bcell hU).1
    have hle := hU.le
    have l2 := World.block_lt_of_cell? wr _ c6
    dsimp only at l2
    have l1 : w.heap.size + 1 < wr.heap.size := by omega
    have l0 : w.heap.size < wr.heap.size := by omega
    by_cases hlt : k < b.length
    · obtain ⟨b1, o1, rfl, lb, cc⟩ := (Hr.out).at (by omega)
      obtain ⟨q1, q2⟩ := cc k hlt
      have j1 := (gr _ _ lb).trans q1
      have j2 := (gr _ _ lb).trans q2
      have lbr : b1 < wr.heap.size := by omega
      have z1 : w.heap.size < wr.heap.size + 1 := by omega
      have z2 : w.heap.size ≠ wr.heap.size + 1 := by omega
      have z3 : w.heap.size + 1 < wr.heap.size + 1 := by omega
      have z4 : w.heap.size + 1 ≠ wr.heap.size + 1 := by omega
      have z5 : w1.heap.size < wr.heap.size + 1 := by omega
      have z6 : w1.heap.size ≠ wr.heap.size + 1 := by omega
      have z7 : b1 < wr.heap.size + 1 := by omega
      have z8 : b1 ≠ wr.heap.size + 1 := by omega
      have hrt := Hs.out k hlt
      have Hdr := hid (sdrop b k hlt)
      have Hlt := hid hlt
      have hk3 : k = 0 ∨ k = 1 ∨ k = 2 := by omega
      obtain ⟨e, he, he3, ht⟩ : ∃ e : Nat, (t.time k).toNat = e ∧ e ≤ 3 ∧ wr.cell? ⟨w.heap.size, 1 + k, none⟩ = some (.int .i64 (e : Int)) := by
        have hti := H1.out k
        refine ⟨(t.time k).toNat, rfl, by omega, ?_⟩
        rw [Int.toNat_of_nonneg hti.1]
        rcases hk3 with rfl | rfl | rfl
        · exact c1
        · exact c2
        · exact c3
      have hdk : decide ((k : Int) < (b.length : Int)) = true := by simp; omega
      have hkm : (k : Int) < (b.length : Int) := by omega
      have hk0 : (0 : Int) ≤ (k : Int) := by omega
      have hk33 : (k : Int) < 3 := by omega
      generalize b[k]?.getD ⟨0, 0⟩ = x at *
      have Hra := hid (fun W => raised_any x.lo x.hi e W hrt.1 hrt.2.1 (by omega))
      have HRM := hid (fun r (h : raisedF x e = .ok r) => raised_M hrt.1 hrt.2.1 h)
      have HE := hid he
      have M1 := hid m1; have M2 := hid m2
      clear cc q1 q2 gr hrt hk3 he hlt m1 m2
      cases hx2 : raisedF x e with
      | error n2 =>
        have Hx2 := hid hx2; clear hx2
        go_wp2_with fail
        go_region_with (first
                        | ((go_at_call 191; refine (Hra.out _).mono ?_; rintro e w2 ⟨x2, hx2, rfl, hb2⟩); rw [Hx2.out] at hx2; subst hx2; obtain ⟨hc2, hf2⟩ := bcell hb2; obtain ⟨_, _⟩ : w.heap.size < w2.heap.size ∧ w.heap.size + 1 < w2.heap.size := (by have hle := Up.le hb2; first | omega | (simp at hle; omega) | (simp at hle; done)); have _ : w1.heap.size < w2.heap.size := (by have hle := Up.le hb2; first | omega | (simp at hle; omega) | (simp at hle; done)); have _ : wr.heap.size < w2.heap.size := (by have hle := Up.le hb2; first | omega | (simp at hle; omega) | (simp at hle; done)); (try (have _ : wr.heap.size + 1 < w2.heap.size := (by have hle := Up.le hb2; simp at hle; omega)))))
        all_goals go_wp2
        all_goals
          (refine bodyPost_res rfl ?_; simp only [results, Tryz.results150]; go_simp; refine resPost_ok ?_)
          refine RetX.mk (.error n2) ?_ ?_ rfl
          · (repeat (first | (with_reducible exact Up.refl _) | (with_reducible assumption) | (with_reducible refine Up.alloc ?_ _) | (with_reducible refine Up.drew ?_) | ((with_reducible refine Up.set ?_ ?_ _); rotate_left; focus (first | omega | (simp; done) | (simp; omega))) | (with_reducible refine Up.drewN ?_ _) | (with_reducible refine Up.call ?_ (by with_reducible assumption))))
          · rw [H.out, Hdr.out]; exact oneG_bad1 (by rw [HE.out]; exact Hx2.out)
      | ok r =>
        obtain ⟨m3, m4⟩ := HRM.out r hx2
        have Hpr := hid (fun W => product_any s.lo s.hi r.lo r.hi W M1.out M2.out m3 m4)
        have Hx2 := hid hx2; clear hx2
        go_wp2_with fail
        go_region_with (first
                        | ((go_at_call 191; refine (Hra.out _).mono ?_; rintro e w2 ⟨x2, hx2, rfl, hb2⟩); rw [Hx2.out] at hx2; subst hx2; obtain ⟨hc2, hf2⟩ := bcell hb2; obtain ⟨_, _⟩ : w.heap.size < w2.heap.size ∧ w.heap.size + 1 < w2.heap.size := (by have hle := Up.le hb2; first | omega | (simp at hle; omega) | (simp at hle; done)); have _ : w1.heap.size < w2.heap.size := (by have hle := Up.le hb2; first | omega | (simp at hle; omega) | (simp at hle; done)); have _ : wr.heap.size < w2.heap.size := (by have hle := Up.le hb2; first | omega | (simp at hle; omega) | (simp at hle; done)); (try (have _ : wr.heap.size + 1 < w2.heap.size := (by have hle := Up.le hb2; simp at hle; omega)))))
        all_goals go_wp2_with ((go_at_call 186; refine (Hpr.out _).mono ?_; rintro e w4 ⟨(n4|u), hx4, rfl, hb4⟩) <;> (obtain ⟨hc4, hf4⟩ := bcell hb4; obtain ⟨_, _⟩ : w.heap.size < w4.heap.size ∧ w.heap.size + 1 < w4.heap.size := (by have hle := Up.le hb4; first | omega | (simp at hle; omega) | (simp at hle; done)); have _ : w1.heap.size < w4.heap.size := (by have hle := Up.le hb4; first | omega | (simp at hle; omega) | (simp at hle; done)); have _ : wr.heap.size < w4.heap.size := (by have hle := Up.le hb4; first | omega | (simp at hle; omega) | (simp at hle; done)); (try (have _ : wr.heap.size + 1 < w4.heap.size := (by have hle := Up.le hb4; simp at hle; omega))); (try (have _ : w2.heap.size < w4.heap.size := (by have hle := Up.le hb4; simp at hle; omega)))))
        all_goals
          first
            | ((refine bodyPost_res rfl ?_; simp only [results, Tryz.results150]; go_simp; refine resPost_ok ?_)
               refine RetX.mk (.error n4) ?_ ?_ rfl
               · (repeat (first | (with_reducible exact Up.refl _) | (with_reducible assumption) | (with_reducible refine Up.alloc ?_ _) | (with_reducible refine Up.drew ?_) | ((with_reducible refine Up.set ?_ ?_ _); rotate_left; focus (first | omega | (simp; done) | (simp; omega))) | (with_reducible refine Up.drewN ?_ _) | (with_reducible refine Up.call ?_ (by with_reducible assumption))))
               · rw [H.out, Hdr.out]; exact oneG_bad2 (by rw [HE.out]; exact Hx2.out) hx4)
            | (go_roundw
               case rel =>
                 have hM := prod_M hx4
                 refine ⟨k + 1, u, by have := Hlt.out; omega, by go_num, ?_, hM.1, hM.2, ?_, ⟨⟨by go_simp, by go_simp⟩, ⟨by go_simp, by go_simp⟩, ⟨by go_simp, by go_simp⟩, ⟨by go_simp, by go_simp⟩⟩, ⟨⟨by go_simp, by go_simp⟩, ⟨by go_simp, by go_simp⟩⟩, ⟨⟨?_, by go_simp⟩, ⟨?_, by go_simp⟩⟩⟩
                 · show _ = _
                   rw [H.out, Hdr.out]; exact oneG_good (by rw [HE.out]; exact Hx2.out) hx4
                 · (repeat (first | (with_reducible exact Up.refl _) | (with_reducible assumption) | (with_reducible refine Up.alloc ?_ _) | (with_reducible refine Up.drew ?_) | ((with_reducible refine Up.set ?_ ?_ _); rotate_left; focus (first | omega | (simp; done) | (simp; omega))) | (with_reducible refine Up.drewN ?_ _) | (with_reducible refine Up.call ?_ (by with_reducible assumption))))
                 · first
                   | (refine World.cell?_setCell_same' _ _ _ ?_; go_simp; done)
                   | (refine (World.cell?_setCell_other _ _ _ _ ?_).trans ?_; (focus (simp; done)); refine World.cell?_setCell_same' _ _ _ ?_; go_simp; done)
                 · first
                   | (refine World.cell?_setCell_same' _ _ _ ?_; go_simp; done)
                   | (refine (World.cell?_setCell_other _ _ _ _ ?_).trans ?_; (focus (simp; done)); refine World.cell?_setCell_same' _ _ _ ?_; go_simp; done)
               case measure => have := Hlt.out; simp [intOf]; omega)
    · obtain rfl : k = b.length := by omega
      go_wp2
      (refine bodyPost_res rfl ?_; simp only [results, Tryz.results150]; go_simp; refine resPost_ok ?_)
      refine RetX.mk (.ok s) ?_ ?_ rfl
      · (repeat (first | (with_reducible exact Up.refl _) | (with_reducible assumption) | (with_reducible refine Up.alloc ?_ _) | (with_reducible refine Up.drew ?_) | ((with_reducible refine Up.set ?_ ?_ _); rotate_left; focus (first | omega | (simp; done) | (simp; omega))) | (with_reducible refine Up.drewN ?_ _) | (with_reducible refine Up.call ?_ (by with_reducible assumption))))
      · rw [H.out, List.drop_length]; rfl
end Go.Proofs.YtmjcnpolnknkkaaGreatDoor
