/- The walk of the reference's Range over a box. -/
import Derived.Test.YteoomjenekkomaaDoorRff
import Derived.Test.YteoomjenekkomaaDoorRfp
import Derived.Test.YteoomjenekkomaaDoorFormd
import Derived.Test.YteoomjenekkomaaDoorBase
import Derived.Deep.RegionWith
import Derived.Deep.DeepCutAuto

set_option linter.unusedVariables false
set_option linter.unusedSimpArgs false
namespace Go.Proofs.YteoomjenekkomaaDoor
open Go.RowKit

theorem oneG_num {t : Tm} : ∀ (b : List Sp) (k : Nat) (s : Sp) (e : Nat), oneG t k s b = .error e → e = 4
  | [], _, _, e, h => by cases h
  | x :: b, k, s, e, h => by
    unfold oneG at h
    split at h
    · rename_i h1; injection h with h; subst h; exact raised_four h1
    · split at h
      · rename_i h1; injection h with h; subst h; exact prod_err h1
      · exact oneG_num _ _ _ _ h
theorem fover_num {b : List Sp} : ∀ (f : List Tm) (s : Sp) (e : Nat), foverG b s f = .error e → e = 4
  | [], _, e, h => by cases h
  | t :: f, s, e, h => by
    unfold foverG at h
    split at h
    · rename_i h1; injection h with h; subst h; exact oneG_num _ _ _ _ h1
    · split at h
      · rename_i h1; injection h with h; subst h; exact sum_err h1
      · exact fover_num _ _ _ h
/-- What the walk of Range has of its own: the result's cells, what is added up, and the term. -/
def RW (w w1 : World) (s u : Sp) (wx : World) : Prop :=
  Up w wx ∧ (Cf wx w.heap.size 0 (.int .i64 0) ∧ Cf wx w.heap.size 1 (.int .i64 0)) ∧ (Cf wx (w.heap.size + 1) 0 (.int .i64 s.lo) ∧ Cf wx (w.heap.size + 1) 1 (.int .i64 s.hi)) ∧ (Cf wx w1.heap.size 0 (.int .i64 u.lo) ∧ Cf wx w1.heap.size 1 (.int .i64 u.hi))
theorem RW.up {w w1 wx wy : World} {s u : Sp} (h : RW w w1 s u wx) (hu : Up wx wy) : RW w w1 s u wy := by
  obtain ⟨h0, ⟨h1, h2⟩, ⟨h3, h4⟩, ⟨h5, h6⟩⟩ := h
  exact ⟨h0.call hu, ⟨Cf.up h1 hu, Cf.up h2 hu⟩, ⟨Cf.up h3 hu, Cf.up h4 hu⟩, ⟨Cf.up h5 hu, Cf.up h6 hu⟩⟩
set_option maxRecDepth 100000 in
set_option maxHeartbeats 32000000 in
theorem rfrange_any (f : List Tm) (A B : Option Addr) (b : List Sp) (c d : Nat) (w : World) (kk : Nat) (hf : RdT w A f) (hr : RdS w B b) (h3 : b.length ≤ 3) (hs : ∀ s ∈ b, Rt s) (hc : firstBadT kk f = none) (hm : f.length ≤ 1000) :
    Calls Tryd.prog 70 #[.slice A f.length c, .slice B b.length d] w (RetX rfR (foverF f b) w) := by
  have Hf := hid hf; have Hr := hid hr; have Hm := hid hm; have H3 := hid h3
  have H1 := hid (fun k (hk : k < f.length) => (tcheck_ok (firstBadT_at hc (f[k]?.getD default) (by rw [List.getElem?_eq_getElem hk]; exact List.getElem_mem hk))).1)
  have HBy := hid (fun k (hk : k < f.length) => (tcheck_ok (firstBadT_at hc (f[k]?.getD default) (by rw [List.getElem?_eq_getElem hk]; exact List.getElem_mem hk))).2.2)
  have Hs := hid (fun k (hk : k < b.length) => hs (b[k]?.getD ⟨0, 0⟩) (by rw [List.getElem?_eq_getElem hk]; exact List.getElem_mem hk))
  clear hf hr h3 hs hc hm
  go_enter Tryd.func70, Tryd.ntmps70
  go_wp2
  go_loopw [7] (fun i wr => ∃ (k : Nat) (s : Sp), k ≤ f.length ∧ i = .int .i64 k ∧ Hid (foverF f b = foverG b s (f.drop k)) ∧ M s.lo ∧ M s.hi ∧ Up w wr ∧
    (Cf wr w.heap.size 0 (.int .i64 0) ∧ Cf wr w.heap.size 1 (.int .i64 0)) ∧ (Cf wr (w.heap.size + 1) 0 (.int .i64 s.lo) ∧ Cf wr (w.heap.size + 1) 1 (.int .i64 s.hi)))
    (fun i _ => f.length - (intOf i).toNat)
  case atStart =>
    refine ⟨0, ⟨0, 0⟩, by omega, rfl, rfl, by decide, by decide, ?_, ⟨⟨by go_simp, by go_simp⟩, ⟨by go_simp, by go_simp⟩⟩, ⟨⟨by go_simp, by go_simp⟩, ⟨by go_simp, by go_simp⟩⟩⟩
    (repeat (first | (with_reducible exact Up.refl _) | (with_reducible assumption) | (with_reducible refine Up.alloc ?_ _) | (with_reducible refine Up.drew ?_) | ((with_reducible refine Up.set ?_ ?_ _); rotate_left; focus (first | omega | (simp; done) | (simp; omega))) | (with_reducible refine Up.drewN ?_ _) | (with_reducible refine Up.call ?_ (by with_reducible assumption))))
  case round =>
    obtain ⟨k, s, hk, rfl, H, m1, m2, hU, ⟨⟨c4, g4⟩, ⟨c5, g5⟩⟩, ⟨⟨c6, g6⟩, ⟨c7, g7⟩⟩⟩ := hrel
    have gr := (bcell hU).1
    have hle := hU.le
    have l1 := World.block_lt_of_cell? wr _ c6
    dsimp only at l1
    have l0 : w.heap.size < wr.heap.size := by omega
    by_cases hlt : k < f.length
    · obtain ⟨b1, o1, rfl, lb, q0, qt⟩ := (Hf.out).time hlt
      have j0 := (gr _ _ lb).trans q0
      have lbr : b1 < wr.heap.size := by omega
      have Hdr := hid (tdrop f k hlt)
      have Hlt := hid hlt
      have HT := hid (H1.out k hlt)
      have hby := HBy.out k hlt
      have hdk : decide ((k : Int) < (f.length : Int)) = true := by simp; omega
      have hkm : (k : Int) < (f.length : Int) := by omega
      have hk0 : (0 : Int) ≤ (k : Int) := by omega
      have hk9 : (k : Int) < 1000 := by have := Hm.out; omega
      generalize f[k]?.getD default = t at *
      have Qt := hid (fun W (hW : Up w W) j (hj : j < 3) => (Below.cell hW (p := ⟨b1, o1 + k * 4 + 1 + j, none⟩) lb).trans (qt j hj))
      have M1 := hid m1; have M2 := hid m2; have HBt := hid hby
      clear q0 qt gr hlt m1 m2 hby
      go_wp2_with (((go_at_call 108; (with_reducible refine (ralone_any _ _).mono ?_); rintro e w1 ⟨x1, hx1, rfl, hb1⟩ <;> (subst hx1)) <;> (have hle := Up.le hb1; (try simp only [World.size_alloc, World.size_setCell, World.size_drew, World.heap_drewN] at hle); (try (have _ : w.heap.size < w1.heap.size := (by omega); (first | ((apply fk hb1 (w.heap.size); (focus (go_simp; rfl)); (focus (intro o; go_simp)); intro z; (try clear f_0); have f_0 := z; clear z)) | skip); (try (apply fko hb1 (w.heap.size) 0; (focus (go_simp; rfl)); (focus (go_simp; done)); intro z; (try clear g_0_0); have g_0_0 := z; clear z)); (try (apply fko hb1 (w.heap.size) 1; (focus (go_simp; rfl)); (focus (go_simp; done)); intro z; (try clear g_0_1); have g_0_1 := z; clear z)); (try (apply ck hb1 (w.heap.size) 0; (focus (go_simp; rfl)); intro z; (try clear c_0_0); have c_0_0 := z; clear z)); (try (apply ck hb1 (w.heap.size) 1; (focus (go_simp; rfl)); intro z; (try clear c_0_1); have c_0_1 := z; clear z)))); (try (have _ : w.heap.size + 1 < w1.heap.size := (by omega); (first | ((apply fk hb1 (w.heap.size + 1); (focus (go_simp; rfl)); (focus (intro o; go_simp)); intro z; (try clear f_1); have f_1 := z; clear z)) | skip); (try (apply fko hb1 (w.heap.size + 1) 0; (focus (go_simp; rfl)); (focus (go_simp; done)); intro z; (try clear g_1_0); have g_1_0 := z; clear z)); (try (apply fko hb1 (w.heap.size + 1) 1; (focus (go_simp; rfl)); (focus (go_simp; done)); intro z; (try clear g_1_1); have g_1_1 := z; clear z)); (try (apply ck hb1 (w.heap.size + 1) 0; (focus (go_simp; rfl)); intro z; (try clear c_1_0); have c_1_0 := z; clear z)); (try (apply ck hb1 (w.heap.size + 1) 1; (focus (go_simp; rfl)); intro z; (try clear c_1_1); have c_1_1 := z; clear z)))); (try (have _ : wr.heap.size < w1.heap.size := (by omega); (first | ((apply fk hb1 (wr.heap.size); (focus (go_simp; rfl)); (focus (intro o; go_simp)); intro z; (try clear fr_0); have fr_0 := z; clear z)) | skip); (try (apply fko hb1 (wr.heap.size) 0; (focus (go_simp; rfl)); (focus (go_simp; done)); intro z; (try clear gr_0_0); have gr_0_0 := z; clear z)); (try (apply fko hb1 (wr.heap.size) 1; (focus (go_simp; rfl)); (focus (go_simp; done)); intro z; (try clear gr_0_1); have gr_0_1 := z; clear z)); (try (apply ck hb1 (wr.heap.size) 0; (focus (go_simp; rfl)); intro z; (try clear cr_0_0); have cr_0_0 := z; clear z)); (try (apply ck hb1 (wr.heap.size) 1; (focus (go_simp; rfl)); intro z; (try clear cr_0_1); have cr_0_1 := z; clear z)))); clear hle; (try (apply old_keep (w0 := w) (w := w1); (focus ((repeat (first | (with_reducible exact Up.refl _) | (with_reducible assumption) | (with_reducible refine Up.alloc ?_ _) | (with_reducible refine Up.drew ?_) | ((with_reducible refine Up.set ?_ ?_ _); rotate_left; focus (first | omega | (simp; done) | (simp; omega))) | (with_reducible refine Up.drewN ?_ _) | (with_reducible refine Up.call ?_ (by with_reducible assumption)))))); intro y z; (try clear hUp); (try clear hOld); have hUp := y; have hOld := z; clear y z)))))
      go_loopw [9] (fun j wq => ∃ (i : Nat) (u : Sp), i ≤ b.length ∧ j = .int .i64 i ∧ Hid (oneF t b = oneG t i u (b.drop i)) ∧ M u.lo ∧ M u.hi ∧ RW w w1 s u wq) (fun j _ => b.length - (intOf j).toNat)
      case atStart =>
        refine ⟨0, ⟨t.by_, t.by_⟩, by omega, rfl, rfl, HBt.out, HBt.out, ?_, ⟨⟨by go_simp, by go_simp⟩, ⟨by go_simp, by go_simp⟩⟩, ⟨⟨by go_simp, by go_simp⟩, ⟨by go_simp, by go_simp⟩⟩, ⟨⟨by go_simp, by go_simp⟩, ⟨by go_simp, by go_simp⟩⟩⟩
        (repeat (first | (with_reducible exact Up.refl _) | (with_reducible assumption) | (with_reducible refine Up.alloc ?_ _) | (with_reducible refine Up.drew ?_) | ((with_reducible refine Up.set ?_ ?_ _); rotate_left; focus (first | omega | (simp; done) | (simp; omega))) | (with_reducible refine Up.drewN ?_ _) | (with_reducible refine Up.call ?_ (by with_reducible assumption))))
      case round =>
        clear hU hUp hOld hb1
        obtain ⟨i, u, hi, rfl, HI, m3, m4, HRW⟩ := hrel
        have HRw := hid HRW
        obtain ⟨hU, ⟨⟨c0, g0⟩, ⟨c1, g1⟩⟩, ⟨⟨c2, g2⟩, ⟨c3, g3⟩⟩, ⟨⟨c8, g8⟩, ⟨c9, g9⟩⟩⟩ := HRW
        have hle2 := hU.le
        have L0 := World.block_lt_of_cell? _ _ c0
        have L1 := World.block_lt_of_cell? _ _ c2
        have L2 := World.block_lt_of_cell? _ _ c8
        dsimp only at L0 L1 L2 c0 c1 c2 c3 c8 c9
        by_cases hil : i < b.length
        · obtain ⟨b2, o2, rfl, lb2, cc⟩ := (Hr.out).at (by omega)
          obtain ⟨q1, q2⟩ := cc i hil
          have j1 := ((bcell hU).1 _ _ lb2).trans q1
          have j2 := ((bcell hU).1 _ _ lb2).trans q2
          have lb2r : b2 < wr.heap.size := by omega
          have lb1r : b1 < wr.heap.size := by omega
          have i3 : i < 3 := by have := H3.out; omega
          have hrt := Hs.out i hil
          have Hdx := hid (sdrop b i hil)
          have Hil := hid hil
          obtain ⟨e, he, he3, ht⟩ : ∃ e : Nat, (t.time i).toNat = e ∧ e ≤ 3 ∧ wr.cell? ⟨b1, o1 + k * 4 + 1 + i, none⟩ = some (.int .i64 (e : Int)) := by
            have hti := HT.out i
            refine ⟨(t.time i).toNat, rfl, by omega, ?_⟩
            rw [Int.toNat_of_nonneg hti.1]
            exact Qt.out wr hU i i3
          have hdi : decide ((i : Int) < (b.length : Int)) = true := by simp; omega
          have hib : (i : Int) < (b.length : Int) := by omega
          have hi0 : (0 : Int) ≤ (i : Int) := by omega
          have hi33 : (i : Int) < 3 := by omega
          generalize b[i]?.getD ⟨0, 0⟩ = x at *
          have Hra := hid (fun W => rpower_any x.lo x.hi e W hrt (by omega))
          have HRM := hid (fun r (h : raisedF x e = .ok r) => raised_M hrt.1 hrt.2.1 h)
          have HE := hid he
          have M3 := hid m3; have M4 := hid m4
          clear cc q1 q2 hrt he hil i3 m3 m4
          have z1 : w.heap.size ≠ wr.heap.size := Nat.ne_of_lt L0
          have z2 : w.heap.size + 1 ≠ wr.heap.size := Nat.ne_of_lt L1
          have z3 : w1.heap.size ≠ wr.heap.size := Nat.ne_of_lt L2
          cases hx2 : raisedF x e with
          | error n2 =>
            obtain rfl := raised_four hx2
            have Hx2 := hid hx2; clear hx2
            go_wp2_with fail
            go_region_with ((go_at_call 109; refine (Hra.out _).mono ?_; rintro e w3 ⟨x2, hx2, rfl, hb3⟩); rw [Hx2.out] at hx2; subst hx2; have hU3 : Up wr w3 := (by clear hU; (repeat (first | (with_reducible exact Up.refl _) | (with_reducible assumption) | (with_reducible refine Up.alloc ?_ _) | (with_reducible refine Up.drew ?_) | ((with_reducible refine Up.set ?_ ?_ _); rotate_left; focus (first | omega | (simp; done) | (simp; omega))) | (with_reducible refine Up.drewN ?_ _) | (with_reducible refine Up.call ?_ (by with_reducible assumption))))); obtain ⟨e0, k0⟩ := Cf.up ⟨c0, g0⟩ hU3; obtain ⟨e1, k1⟩ := Cf.up ⟨c1, g1⟩ hU3; obtain ⟨e2, k2⟩ := Cf.up ⟨c2, g2⟩ hU3; obtain ⟨e3, k3⟩ := Cf.up ⟨c3, g3⟩ hU3; obtain ⟨e8, k8⟩ := Cf.up ⟨c8, g8⟩ hU3; obtain ⟨e9, k9⟩ := Cf.up ⟨c9, g9⟩ hU3; have hU4 := hid (hU.call hU3); clear hU3; (have _ : w.heap.size < w3.heap.size := World.block_lt_of_cell? _ _ e0); (have _ : w.heap.size + 1 < w3.heap.size := World.block_lt_of_cell? _ _ e2); (have _ : w1.heap.size < w3.heap.size := World.block_lt_of_cell? _ _ e8); (have _ : w.heap.size ≠ w3.heap.size := (by omega)); (have _ : w.heap.size + 1 ≠ w3.heap.size := (by omega)); (have _ : w1.heap.size ≠ w3.heap.size := (by omega)); (try (apply ck hb3 (wr.heap.size) 0; (focus (go_simp; rfl)); intro z; have n0 := z; clear z; (have _ : wr.heap.size < w3.heap.size := World.block_lt_of_cell? _ _ n0); apply ck hb3 (wr.heap.size) 1; (focus (go_simp; rfl)); intro z; have n1 := z; clear z; apply fko hb3 (wr.heap.size) 0; (focus (go_simp; rfl)); (focus (go_simp; done)); intro z; have n2 := z; clear z; apply fko hb3 (wr.heap.size) 1; (focus (go_simp; rfl)); (focus (go_simp; done)); intro z; have n3 := z; clear z)))
            all_goals go_wp2
            all_goals
              (refine bodyPost_res rfl ?_; simp only [results, Tryd.results70]; go_simp; refine resPost_ok ?_)
              refine RetX.mk (.error 4) ?_ ?_ rfl
              · (repeat (first | (with_reducible exact Up.refl _) | (with_reducible assumption) | (with_reducible refine Up.alloc ?_ _) | (with_reducible refine Up.drew ?_) | ((with_reducible refine Up.set ?_ ?_ _); rotate_left; focus (first | omega | (simp; done) | (simp; omega))) | (with_reducible refine Up.drewN ?_ _) | (with_reducible refine Up.call ?_ (by with_reducible assumption))))
              · rw [H.out, Hdr.out]; exact foverG_bad1 (by rw [HI.out, Hdx.out]; exact oneG_bad1 (by rw [HE.out]; exact Hx2.out))
          | ok r =>
            obtain ⟨m5, m6⟩ := HRM.out r hx2
            have Hpr := hid (fun W => rtimes_any u.lo u.hi r.lo r.hi W M3.out M4.out m5 m6)
            have Hx2 := hid hx2; clear hx2
            go_upto_region 9 with fail
            go_cut [10, 11] (fun s10 s11 wx => ∃ g : Nat, s10 = .pointer (some ⟨g, 0, none⟩) ∧ s11 = .int .i64 0 ∧ g < wx.heap.size ∧ wx.cell? ⟨g, 0, none⟩ = some (.int .i64 r.lo) ∧ wx.cell? ⟨g, 1, none⟩ = some (.int .i64 r.hi) ∧ RW w w1 s u wx)
            case first =>
              go_region_with ((go_at_call 109; refine (Hra.out _).mono ?_; rintro e w3 ⟨x2, hx2, rfl, hb3⟩); rw [Hx2.out] at hx2; subst hx2; have hU3 : Up wr w3 := (by clear hU; (repeat (first | (with_reducible exact Up.refl _) | (with_reducible assumption) | (with_reducible refine Up.alloc ?_ _) | (with_reducible refine Up.drew ?_) | ((with_reducible refine Up.set ?_ ?_ _); rotate_left; focus (first | omega | (simp; done) | (simp; omega))) | (with_reducible refine Up.drewN ?_ _) | (with_reducible refine Up.call ?_ (by with_reducible assumption))))); obtain ⟨e0, k0⟩ := Cf.up ⟨c0, g0⟩ hU3; obtain ⟨e1, k1⟩ := Cf.up ⟨c1, g1⟩ hU3; obtain ⟨e2, k2⟩ := Cf.up ⟨c2, g2⟩ hU3; obtain ⟨e3, k3⟩ := Cf.up ⟨c3, g3⟩ hU3; obtain ⟨e8, k8⟩ := Cf.up ⟨c8, g8⟩ hU3; obtain ⟨e9, k9⟩ := Cf.up ⟨c9, g9⟩ hU3; have hU4 := hid (hU.call hU3); clear hU3; (have _ : w.heap.size < w3.heap.size := World.block_lt_of_cell? _ _ e0); (have _ : w.heap.size + 1 < w3.heap.size := World.block_lt_of_cell? _ _ e2); (have _ : w1.heap.size < w3.heap.size := World.block_lt_of_cell? _ _ e8); (have _ : w.heap.size ≠ w3.heap.size := (by omega)); (have _ : w.heap.size + 1 ≠ w3.heap.size := (by omega)); (have _ : w1.heap.size ≠ w3.heap.size := (by omega)); (try (apply ck hb3 (wr.heap.size) 0; (focus (go_simp; rfl)); intro z; have n0 := z; clear z; (have _ : wr.heap.size < w3.heap.size := World.block_lt_of_cell? _ _ n0); apply ck hb3 (wr.heap.size) 1; (focus (go_simp; rfl)); intro z; have n1 := z; clear z; apply fko hb3 (wr.heap.size) 0; (focus (go_simp; rfl)); (focus (go_simp; done)); intro z; have n2 := z; clear z; apply fko hb3 (wr.heap.size) 1; (focus (go_simp; rfl)); (focus (go_simp; done)); intro z; have n3 := z; clear z)))
              all_goals
                go_wp2_with fail
                go_meet
                refine ⟨_, rfl, rfl, ?_, ?_, ?_, ?_, ⟨⟨by go_simp, by go_simp⟩, ⟨by go_simp, by go_simp⟩⟩, ⟨⟨by go_simp, by go_simp⟩, ⟨by go_simp, by go_simp⟩⟩, ⟨⟨by go_simp, by go_simp⟩, ⟨by go_simp, by go_simp⟩⟩⟩
                · first | (simp; done) | (simp; omega) | omega
                · first | (go_simp; done) | (go_simp; rfl)
                · first | (go_simp; done) | (go_simp; rfl)
                · (repeat (first | (with_reducible exact Up.refl _) | (with_reducible assumption) | (with_reducible refine Up.alloc ?_ _) | (with_reducible refine Up.drew ?_) | ((with_reducible refine Up.set ?_ ?_ _); rotate_left; focus (first | omega | (simp; done) | (simp; omega))) | (with_reducible refine Up.drewN ?_ _) | (with_reducible refine Up.call ?_ (by with_reducible assumption))))
            case rest =>
              obtain ⟨g, rfl, rfl, lg, cg0, cg1, HRW2⟩ := hcut
              clear hU c0 g0 c1 g1 c2 g2 c3 g3 c8 g8 c9 g9 L0 L1 L2 HRw hle2 j1 j2 lb2r lb1r ht
              obtain ⟨hU, ⟨⟨c0, g0⟩, ⟨c1, g1⟩⟩, ⟨⟨c2, g2⟩, ⟨c3, g3⟩⟩, ⟨⟨c8, g8⟩, ⟨c9, g9⟩⟩⟩ := HRW2
              have L0 := World.block_lt_of_cell? _ _ c0
              have L1 := World.block_lt_of_cell? _ _ c2
              have L2 := World.block_lt_of_cell? _ _ c8
              dsimp only at L0 L1 L2 c0 c1 c2 c3 c8 c9
              cases hx4 : prodF u r with
              | error n4 =>
                obtain rfl := prod_err hx4
                have Hx4 := hid hx4; clear hx4
                go_wp2_with (((go_at_call 110; (with_reducible refine (Hpr.out _).mono ?_); rintro e w4 ⟨x4, hx4, rfl, hb4⟩ <;> (rw [Hx4.out] at hx4; subst hx4)) <;> (have hle := Up.le hb4; (try simp only [World.size_alloc, World.size_setCell, World.size_drew, World.heap_drewN] at hle); (try (have _ : w.heap.size < w4.heap.size := (by omega); (first | ((apply fk hb4 (w.heap.size); (focus (go_simp; rfl)); (focus (intro o; go_simp)); intro z; (try clear f_0); have f_0 := z; clear z)) | skip); (try (apply fko hb4 (w.heap.size) 0; (focus (go_simp; rfl)); (focus (go_simp; done)); intro z; (try clear g_0_0); have g_0_0 := z; clear z)); (try (apply fko hb4 (w.heap.size) 1; (focus (go_simp; rfl)); (focus (go_simp; done)); intro z; (try clear g_0_1); have g_0_1 := z; clear z)); (try (apply ck hb4 (w.heap.size) 0; (focus (go_simp; rfl)); intro z; (try clear c_0_0); have c_0_0 := z; clear z)); (try (apply ck hb4 (w.heap.size) 1; (focus (go_simp; rfl)); intro z; (try clear c_0_1); have c_0_1 := z; clear z)))); (try (have _ : w.heap.size + 1 < w4.heap.size := (by omega); (first | ((apply fk hb4 (w.heap.size + 1); (focus (go_simp; rfl)); (focus (intro o; go_simp)); intro z; (try clear f_1); have f_1 := z; clear z)) | skip); (try (apply fko hb4 (w.heap.size + 1) 0; (focus (go_simp; rfl)); (focus (go_simp; done)); intro z; (try clear g_1_0); have g_1_0 := z; clear z)); (try (apply fko hb4 (w.heap.size + 1) 1; (focus (go_simp; rfl)); (focus (go_simp; done)); intro z; (try clear g_1_1); have g_1_1 := z; clear z)); (try (apply ck hb4 (w.heap.size + 1) 0; (focus (go_simp; rfl)); intro z; (try clear c_1_0); have c_1_0 := z; clear z)); (try (apply ck hb4 (w.heap.size + 1) 1; (focus (go_simp; rfl)); intro z; (try clear c_1_1); have c_1_1 := z; clear z)))); (try (have _ : w1.heap.size < w4.heap.size := (by omega); (first | ((apply fk hb4 (w1.heap.size); (focus (go_simp; rfl)); (focus (intro o; go_simp)); intro z; (try clear f1_0); have f1_0 := z; clear z)) | skip); (try (apply fko hb4 (w1.heap.size) 0; (focus (go_simp; rfl)); (focus (go_simp; done)); intro z; (try clear g1_0_0); have g1_0_0 := z; clear z)); (try (apply fko hb4 (w1.heap.size) 1; (focus (go_simp; rfl)); (focus (go_simp; done)); intro z; (try clear g1_0_1); have g1_0_1 := z; clear z)); (try (apply ck hb4 (w1.heap.size) 0; (focus (go_simp; rfl)); intro z; (try clear c1_0_0); have c1_0_0 := z; clear z)); (try (apply ck hb4 (w1.heap.size) 1; (focus (go_simp; rfl)); intro z; (try clear c1_0_1); have c1_0_1 := z; clear z)))); (try (have _ : wr.heap.size < w4.heap.size := (by omega); (first | ((apply fk hb4 (wr.heap.size); (focus (go_simp; rfl)); (focus (intro o; go_simp)); intro z; (try clear fr_0); have fr_0 := z; clear z)) | skip); (try (apply fko hb4 (wr.heap.size) 0; (focus (go_simp; rfl)); (focus (go_simp; done)); intro z; (try clear gr_0_0); have gr_0_0 := z; clear z)); (try (apply fko hb4 (wr.heap.size) 1; (focus (go_simp; rfl)); (focus (go_simp; done)); intro z; (try clear gr_0_1); have gr_0_1 := z; clear z)); (try (apply ck hb4 (wr.heap.size) 0; (focus (go_simp; rfl)); intro z; (try clear cr_0_0); have cr_0_0 := z; clear z)); (try (apply ck hb4 (wr.heap.size) 1; (focus (go_simp; rfl)); intro z; (try clear cr_0_1); have cr_0_1 := z; clear z)))); clear hle; (try (apply old_keep (w0 := w) (w := w4); (focus ((repeat (first | (with_reducible exact Up.refl _) | (with_reducible assumption) | (with_reducible refine Up.alloc ?_ _) | (with_reducible refine Up.drew ?_) | ((with_reducible refine Up.set ?_ ?_ _); rotate_left; focus (first | omega | (simp; done) | (simp; omega))) | (with_reducible refine Up.drewN ?_ _) | (with_reducible refine Up.call ?_ (by with_reducible assumption)))))); intro y z; (try clear hUp); (try clear hOld); have hUp := y; have hOld := z; clear y z)))))
                all_goals
                  (refine bodyPost_res rfl ?_; simp only [results, Tryd.results70]; go_simp; refine resPost_ok ?_)
                  refine RetX.mk (.error 4) ?_ ?_ rfl
                  · (repeat (first | (with_reducible exact Up.refl _) | (with_reducible assumption) | (with_reducible refine Up.alloc ?_ _) | (with_reducible refine Up.drew ?_) | ((with_reducible refine Up.set ?_ ?_ _); rotate_left; focus (first | omega | (simp; done) | (simp; omega))) | (with_reducible refine Up.drewN ?_ _) | (with_reducible refine Up.call ?_ (by with_reducible assumption))))
                  · rw [H.out, Hdr.out]; exact foverG_bad1 (by rw [HI.out, Hdx.out]; exact oneG_bad2 (by rw [HE.out]; exact Hx2.out) Hx4.out)
              | ok v =>
                have hM := prod_M hx4
                have HM2 := hid hM
                have Hx4 := hid hx4; clear hx4 hM
                go_wp2_with (((go_at_call 110; (with_reducible refine (Hpr.out _).mono ?_); rintro e w4 ⟨x4, hx4, rfl, hb4⟩ <;> (rw [Hx4.out] at hx4; subst hx4)) <;> (have hle := Up.le hb4; (try simp only [World.size_alloc, World.size_setCell, World.size_drew, World.heap_drewN] at hle); (try (have _ : w.heap.size < w4.heap.size := (by omega); (first | ((apply fk hb4 (w.heap.size); (focus (go_simp; rfl)); (focus (intro o; go_simp)); intro z; (try clear f_0); have f_0 := z; clear z)) | skip); (try (apply fko hb4 (w.heap.size) 0; (focus (go_simp; rfl)); (focus (go_simp; done)); intro z; (try clear g_0_0); have g_0_0 := z; clear z)); (try (apply fko hb4 (w.heap.size) 1; (focus (go_simp; rfl)); (focus (go_simp; done)); intro z; (try clear g_0_1); have g_0_1 := z; clear z)); (try (apply ck hb4 (w.heap.size) 0; (focus (go_simp; rfl)); intro z; (try clear c_0_0); have c_0_0 := z; clear z)); (try (apply ck hb4 (w.heap.size) 1; (focus (go_simp; rfl)); intro z; (try clear c_0_1); have c_0_1 := z; clear z)))); (try (have _ : w.heap.size + 1 < w4.heap.size := (by omega); (first | ((apply fk hb4 (w.heap.size + 1); (focus (go_simp; rfl)); (focus (intro o; go_simp)); intro z; (try clear f_1); have f_1 := z; clear z)) | skip); (try (apply fko hb4 (w.heap.size + 1) 0; (focus (go_simp; rfl)); (focus (go_simp; done)); intro z; (try clear g_1_0); have g_1_0 := z; clear z)); (try (apply fko hb4 (w.heap.size + 1) 1; (focus (go_simp; rfl)); (focus (go_simp; done)); intro z; (try clear g_1_1); have g_1_1 := z; clear z)); (try (apply ck hb4 (w.heap.size + 1) 0; (focus (go_simp; rfl)); intro z; (try clear c_1_0); have c_1_0 := z; clear z)); (try (apply ck hb4 (w.heap.size + 1) 1; (focus (go_simp; rfl)); intro z; (try clear c_1_1); have c_1_1 := z; clear z)))); (try (have _ : w1.heap.size < w4.heap.size := (by omega); (first | ((apply fk hb4 (w1.heap.size); (focus (go_simp; rfl)); (focus (intro o; go_simp)); intro z; (try clear f1_0); have f1_0 := z; clear z)) | skip); (try (apply fko hb4 (w1.heap.size) 0; (focus (go_simp; rfl)); (focus (go_simp; done)); intro z; (try clear g1_0_0); have g1_0_0 := z; clear z)); (try (apply fko hb4 (w1.heap.size) 1; (focus (go_simp; rfl)); (focus (go_simp; done)); intro z; (try clear g1_0_1); have g1_0_1 := z; clear z)); (try (apply ck hb4 (w1.heap.size) 0; (focus (go_simp; rfl)); intro z; (try clear c1_0_0); have c1_0_0 := z; clear z)); (try (apply ck hb4 (w1.heap.size) 1; (focus (go_simp; rfl)); intro z; (try clear c1_0_1); have c1_0_1 := z; clear z)))); (try (have _ : wr.heap.size < w4.heap.size := (by omega); (first | ((apply fk hb4 (wr.heap.size); (focus (go_simp; rfl)); (focus (intro o; go_simp)); intro z; (try clear fr_0); have fr_0 := z; clear z)) | skip); (try (apply fko hb4 (wr.heap.size) 0; (focus (go_simp; rfl)); (focus (go_simp; done)); intro z; (try clear gr_0_0); have gr_0_0 := z; clear z)); (try (apply fko hb4 (wr.heap.size) 1; (focus (go_simp; rfl)); (focus (go_simp; done)); intro z; (try clear gr_0_1); have gr_0_1 := z; clear z)); (try (apply ck hb4 (wr.heap.size) 0; (focus (go_simp; rfl)); intro z; (try clear cr_0_0); have cr_0_0 := z; clear z)); (try (apply ck hb4 (wr.heap.size) 1; (focus (go_simp; rfl)); intro z; (try clear cr_0_1); have cr_0_1 := z; clear z)))); clear hle; (try (apply old_keep (w0 := w) (w := w4); (focus ((repeat (first | (with_reducible exact Up.refl _) | (with_reducible assumption) | (with_reducible refine Up.alloc ?_ _) | (with_reducible refine Up.drew ?_) | ((with_reducible refine Up.set ?_ ?_ _); rotate_left; focus (first | omega | (simp; done) | (simp; omega))) | (with_reducible refine Up.drewN ?_ _) | (with_reducible refine Up.call ?_ (by with_reducible assumption)))))); intro y z; (try clear hUp); (try clear hOld); have hUp := y; have hOld := z; clear y z)))))
                all_goals
                  go_roundw
                  case rel =>
                    refine ⟨i + 1, v, by have := Hil.out; omega, by go_num, ?_, HM2.out.1, HM2.out.2, ?_, ⟨⟨by go_simp, by go_simp⟩, ⟨by go_simp, by go_simp⟩⟩, ⟨⟨by go_simp, by go_simp⟩, ⟨by go_simp, by go_simp⟩⟩, ⟨⟨by go_simp, by go_simp⟩, ⟨by go_simp, by go_simp⟩⟩⟩
                    · show _ = _
                      rw [HI.out, Hdx.out]; exact oneG_good (by rw [HE.out]; exact Hx2.out) Hx4.out
                    · (try clear hUp hOld); (repeat (first | (with_reducible exact Up.refl _) | (with_reducible assumption) | (with_reducible refine Up.alloc ?_ _) | (with_reducible refine Up.drew ?_) | ((with_reducible refine Up.set ?_ ?_ _); rotate_left; focus (first | omega | (simp; done) | (simp; omega))) | (with_reducible refine Up.drewN ?_ _) | (with_reducible refine Up.call ?_ (by with_reducible assumption))))
                  case measure => have := Hil.out; simp [intOf]; omega
        · obtain rfl : i = b.length := by omega
          have hone : oneF t b = .ok u := by rw [HI.out, List.drop_length]; rfl
          have Hone := hid hone
          have Hsu := hid (fun W => radd_any s.lo s.hi u.lo u.hi W M1.out M2.out m3 m4)
          clear hone
          cases hx5 : sumF s u with
          | error n5 =>
            obtain rfl := sum_err hx5
            have Hx5 := hid hx5; clear hx5
            go_wp2_with (((go_at_call 71; (with_reducible refine (Hsu.out _).mono ?_); rintro e w5 ⟨x5, hx5, rfl, hb5⟩ <;> (rw [Hx5.out] at hx5; subst hx5)) <;> (have hle := Up.le hb5; (try simp only [World.size_alloc, World.size_setCell, World.size_drew, World.heap_drewN] at hle); (try (have _ : w.heap.size < w5.heap.size := (by omega); (first | ((apply fk hb5 (w.heap.size); (focus (go_simp; rfl)); (focus (intro o; go_simp)); intro z; (try clear f_0); have f_0 := z; clear z)) | skip); (try (apply fko hb5 (w.heap.size) 0; (focus (go_simp; rfl)); (focus (go_simp; done)); intro z; (try clear g_0_0); have g_0_0 := z; clear z)); (try (apply fko hb5 (w.heap.size) 1; (focus (go_simp; rfl)); (focus (go_simp; done)); intro z; (try clear g_0_1); have g_0_1 := z; clear z)); (try (apply ck hb5 (w.heap.size) 0; (focus (go_simp; rfl)); intro z; (try clear c_0_0); have c_0_0 := z; clear z)); (try (apply ck hb5 (w.heap.size) 1; (focus (go_simp; rfl)); intro z; (try clear c_0_1); have c_0_1 := z; clear z)))); (try (have _ : w.heap.size + 1 < w5.heap.size := (by omega); (first | ((apply fk hb5 (w.heap.size + 1); (focus (go_simp; rfl)); (focus (intro o; go_simp)); intro z; (try clear f_1); have f_1 := z; clear z)) | skip); (try (apply fko hb5 (w.heap.size + 1) 0; (focus (go_simp; rfl)); (focus (go_simp; done)); intro z; (try clear g_1_0); have g_1_0 := z; clear z)); (try (apply fko hb5 (w.heap.size + 1) 1; (focus (go_simp; rfl)); (focus (go_simp; done)); intro z; (try clear g_1_1); have g_1_1 := z; clear z)); (try (apply ck hb5 (w.heap.size + 1) 0; (focus (go_simp; rfl)); intro z; (try clear c_1_0); have c_1_0 := z; clear z)); (try (apply ck hb5 (w.heap.size + 1) 1; (focus (go_simp; rfl)); intro z; (try clear c_1_1); have c_1_1 := z; clear z)))); (try (have _ : w1.heap.size < w5.heap.size := (by omega); (first | ((apply fk hb5 (w1.heap.size); (focus (go_simp; rfl)); (focus (intro o; go_simp)); intro z; (try clear f1_0); have f1_0 := z; clear z)) | skip); (try (apply fko hb5 (w1.heap.size) 0; (focus (go_simp; rfl)); (focus (go_simp; done)); intro z; (try clear g1_0_0); have g1_0_0 := z; clear z)); (try (apply fko hb5 (w1.heap.size) 1; (focus (go_simp; rfl)); (focus (go_simp; done)); intro z; (try clear g1_0_1); have g1_0_1 := z; clear z)); (try (apply ck hb5 (w1.heap.size) 0; (focus (go_simp; rfl)); intro z; (try clear c1_0_0); have c1_0_0 := z; clear z)); (try (apply ck hb5 (w1.heap.size) 1; (focus (go_simp; rfl)); intro z; (try clear c1_0_1); have c1_0_1 := z; clear z)))); (try (have _ : wr.heap.size < w5.heap.size := (by omega); (first | ((apply fk hb5 (wr.heap.size); (focus (go_simp; rfl)); (focus (intro o; go_simp)); intro z; (try clear fr_0); have fr_0 := z; clear z)) | skip); (try (apply fko hb5 (wr.heap.size) 0; (focus (go_simp; rfl)); (focus (go_simp; done)); intro z; (try clear gr_0_0); have gr_0_0 := z; clear z)); (try (apply fko hb5 (wr.heap.size) 1; (focus (go_simp; rfl)); (focus (go_simp; done)); intro z; (try clear gr_0_1); have gr_0_1 := z; clear z)); (try (apply ck hb5 (wr.heap.size) 0; (focus (go_simp; rfl)); intro z; (try clear cr_0_0); have cr_0_0 := z; clear z)); (try (apply ck hb5 (wr.heap.size) 1; (focus (go_simp; rfl)); intro z; (try clear cr_0_1); have cr_0_1 := z; clear z)))); clear hle; (try (apply old_keep (w0 := w) (w := w5); (focus ((repeat (first | (with_reducible exact Up.refl _) | (with_reducible assumption) | (with_reducible refine Up.alloc ?_ _) | (with_reducible refine Up.drew ?_) | ((with_reducible refine Up.set ?_ ?_ _); rotate_left; focus (first | omega | (simp; done) | (simp; omega))) | (with_reducible refine Up.drewN ?_ _) | (with_reducible refine Up.call ?_ (by with_reducible assumption)))))); intro y z; (try clear hUp); (try clear hOld); have hUp := y; have hOld := z; clear y z)))))
            all_goals
              (refine bodyPost_res rfl ?_; simp only [results, Tryd.results70]; go_simp; refine resPost_ok ?_)
              refine RetX.mk (.error 4) ?_ ?_ rfl
              · (repeat (first | (with_reducible exact Up.refl _) | (with_reducible assumption) | (with_reducible refine Up.alloc ?_ _) | (with_reducible refine Up.drew ?_) | ((with_reducible refine Up.set ?_ ?_ _); rotate_left; focus (first | omega | (simp; done) | (simp; omega))) | (with_reducible refine Up.drewN ?_ _) | (with_reducible refine Up.call ?_ (by with_reducible assumption))))
              · rw [H.out, Hdr.out]; exact foverG_bad2 Hone.out Hx5.out
          | ok v =>
            have hM := sum_M hx5
            have HM2 := hid hM
            have Hx5 := hid hx5; clear hx5 hM
            go_wp2_with (((go_at_call 71; (with_reducible refine (Hsu.out _).mono ?_); rintro e w5 ⟨x5, hx5, rfl, hb5⟩ <;> (rw [Hx5.out] at hx5; subst hx5)) <;> (have hle := Up.le hb5; (try simp only [World.size_alloc, World.size_setCell, World.size_drew, World.heap_drewN] at hle); (try (have _ : w.heap.size < w5.heap.size := (by omega); (first | ((apply fk hb5 (w.heap.size); (focus (go_simp; rfl)); (focus (intro o; go_simp)); intro z; (try clear f_0); have f_0 := z; clear z)) | skip); (try (apply fko hb5 (w.heap.size) 0; (focus (go_simp; rfl)); (focus (go_simp; done)); intro z; (try clear g_0_0); have g_0_0 := z; clear z)); (try (apply fko hb5 (w.heap.size) 1; (focus (go_simp; rfl)); (focus (go_simp; done)); intro z; (try clear g_0_1); have g_0_1 := z; clear z)); (try (apply ck hb5 (w.heap.size) 0; (focus (go_simp; rfl)); intro z; (try clear c_0_0); have c_0_0 := z; clear z)); (try (apply ck hb5 (w.heap.size) 1; (focus (go_simp; rfl)); intro z; (try clear c_0_1); have c_0_1 := z; clear z)))); (try (have _ : w.heap.size + 1 < w5.heap.size := (by omega); (first | ((apply fk hb5 (w.heap.size + 1); (focus (go_simp; rfl)); (focus (intro o; go_simp)); intro z; (try clear f_1); have f_1 := z; clear z)) | skip); (try (apply fko hb5 (w.heap.size + 1) 0; (focus (go_simp; rfl)); (focus (go_simp; done)); intro z; (try clear g_1_0); have g_1_0 := z; clear z)); (try (apply fko hb5 (w.heap.size + 1) 1; (focus (go_simp; rfl)); (focus (go_simp; done)); intro z; (try clear g_1_1); have g_1_1 := z; clear z)); (try (apply ck hb5 (w.heap.size + 1) 0; (focus (go_simp; rfl)); intro z; (try clear c_1_0); have c_1_0 := z; clear z)); (try (apply ck hb5 (w.heap.size + 1) 1; (focus (go_simp; rfl)); intro z; (try clear c_1_1); have c_1_1 := z; clear z)))); (try (have _ : w1.heap.size < w5.heap.size := (by omega); (first | ((apply fk hb5 (w1.heap.size); (focus (go_simp; rfl)); (focus (intro o; go_simp)); intro z; (try clear f1_0); have f1_0 := z; clear z)) | skip); (try (apply fko hb5 (w1.heap.size) 0; (focus (go_simp; rfl)); (focus (go_simp; done)); intro z; (try clear g1_0_0); have g1_0_0 := z; clear z)); (try (apply fko hb5 (w1.heap.size) 1; (focus (go_simp; rfl)); (focus (go_simp; done)); intro z; (try clear g1_0_1); have g1_0_1 := z; clear z)); (try (apply ck hb5 (w1.heap.size) 0; (focus (go_simp; rfl)); intro z; (try clear c1_0_0); have c1_0_0 := z; clear z)); (try (apply ck hb5 (w1.heap.size) 1; (focus (go_simp; rfl)); intro z; (try clear c1_0_1); have c1_0_1 := z; clear z)))); (try (have _ : wr.heap.size < w5.heap.size := (by omega); (first | ((apply fk hb5 (wr.heap.size); (focus (go_simp; rfl)); (focus (intro o; go_simp)); intro z; (try clear fr_0); have fr_0 := z; clear z)) | skip); (try (apply fko hb5 (wr.heap.size) 0; (focus (go_simp; rfl)); (focus (go_simp; done)); intro z; (try clear gr_0_0); have gr_0_0 := z; clear z)); (try (apply fko hb5 (wr.heap.size) 1; (focus (go_simp; rfl)); (focus (go_simp; done)); intro z; (try clear gr_0_1); have gr_0_1 := z; clear z)); (try (apply ck hb5 (wr.heap.size) 0; (focus (go_simp; rfl)); intro z; (try clear cr_0_0); have cr_0_0 := z; clear z)); (try (apply ck hb5 (wr.heap.size) 1; (focus (go_simp; rfl)); intro z; (try clear cr_0_1); have cr_0_1 := z; clear z)))); clear hle; (try (apply old_keep (w0 := w) (w := w5); (focus ((repeat (first | (with_reducible exact Up.refl _) | (with_reducible assumption) | (with_reducible refine Up.alloc ?_ _) | (with_reducible refine Up.drew ?_) | ((with_reducible refine Up.set ?_ ?_ _); rotate_left; focus (first | omega | (simp; done) | (simp; omega))) | (with_reducible refine Up.drewN ?_ _) | (with_reducible refine Up.call ?_ (by with_reducible assumption)))))); intro y z; (try clear hUp); (try clear hOld); have hUp := y; have hOld := z; clear y z)))))
            all_goals
              go_roundw
              case rel =>
                refine ⟨k + 1, v, by have := Hlt.out; omega, by go_num, ?_, HM2.out.1, HM2.out.2, ?_, ⟨⟨by go_simp, by go_simp⟩, ⟨by go_simp, by go_simp⟩⟩, ⟨⟨by go_simp, by go_simp⟩, ⟨by go_simp, by go_simp⟩⟩⟩
                · show _ = _
                  rw [H.out, Hdr.out]; exact foverG_good Hone.out Hx5.out
                · (try clear hUp hOld); (repeat (first | (with_reducible exact Up.refl _) | (with_reducible assumption) | (with_reducible refine Up.alloc ?_ _) | (with_reducible refine Up.drew ?_) | ((with_reducible refine Up.set ?_ ?_ _); rotate_left; focus (first | omega | (simp; done) | (simp; omega))) | (with_reducible refine Up.drewN ?_ _) | (with_reducible refine Up.call ?_ (by with_reducible assumption))))
              case measure => have := Hlt.out; simp [intOf]; omega
    · obtain rfl : k = f.length := by omega
      go_wp2
      (refine bodyPost_res rfl ?_; simp only [results, Tryd.results70]; go_simp; refine resPost_ok ?_)
      refine RetX.mk (.ok s) ?_ ?_ rfl
      · (repeat (first | (with_reducible exact Up.refl _) | (with_reducible assumption) | (with_reducible refine Up.alloc ?_ _) | (with_reducible refine Up.drew ?_) | ((with_reducible refine Up.set ?_ ?_ _); rotate_left; focus (first | omega | (simp; done) | (simp; omega))) | (with_reducible refine Up.drewN ?_ _) | (with_reducible refine Up.call ?_ (by with_reducible assumption))))
      · rw [H.out, List.drop_length]; rfl
end Go.Proofs.YteoomjenekkomaaDoor
