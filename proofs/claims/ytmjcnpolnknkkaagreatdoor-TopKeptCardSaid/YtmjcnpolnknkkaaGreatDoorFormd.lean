/- The walks of form.Over, Range. -/
import Derived.Test.YtmjcnpolnknkkaaGreatDoorFormc
import Derived.Deep.RegionWith
import Derived.Test.YtmjcnpolnknkkaaGreatDoorHas

set_option linter.unusedVariables false
set_option linter.unusedSimpArgs false
namespace Go.Proofs.YtmjcnpolnknkkaaGreatDoor
open Go.RowKit

theorem foverG_bad1 {b : List Sp} {s : Sp} {t : Tm} {l : List Tm} {e : Nat} (h : oneF t b = .error e) : foverG b s (t :: l) = .error e := by
  unfold foverG; rw [h]
theorem foverG_bad2 {b : List Sp} {s x : Sp} {t : Tm} {l : List Tm} {e : Nat} (h : oneF t b = .ok x) (h2 : sumF s x = .error e) : foverG b s (t :: l) = .error e := by
  unfold foverG; rw [h]; dsimp only; rw [h2]
theorem foverG_good {b : List Sp} {s x u : Sp} {t : Tm} {l : List Tm} (h : oneF t b = .ok x) (h2 : sumF s x = .ok u) : foverG b s (t :: l) = foverG b u l := by
  conv => lhs; unfold foverG
  rw [h]
  dsimp only
  rw [h2]
theorem firstBadT_at {k : Nat} : ∀ {l : List Tm}, firstBadT k l = none → ∀ t ∈ l, tcheckF t k = none
  | [], _, t, h => by cases h
  | s :: l, h, t, ht => by
    unfold firstBadT at h
    split at h
    · cases h
    · rcases List.mem_cons.1 ht with e | e
      · rw [e]; assumption
      · exact firstBadT_at h t e
theorem oneG_M {t : Tm} : ∀ (b : List Sp) (i : Nat) (s r : Sp), M s.lo ∧ M s.hi → oneG t i s b = .ok r → M r.lo ∧ M r.hi
  | [], i, s, r, hs, h => by
    unfold oneG at h
    injection h with h
    rw [← h]; exact hs
  | c :: b, i, s, r, hs, h => by
    unfold oneG at h
    cases e1 : raisedF c (t.time i).toNat with
    | error e => rw [e1] at h; cases h
    | ok q =>
      rw [e1] at h
      dsimp only at h
      cases e2 : prodF s q with
      | error e => rw [e2] at h; cases h
      | ok u =>
        rw [e2] at h
        dsimp only at h
        exact oneG_M b (i + 1) u r (prod_M e2) h
set_option maxRecDepth 100000 in
set_option maxHeartbeats 4000000 in
theorem fover_any (f : List Tm) (A B : Option Addr) (b : List Sp) (c d : Nat) (w : World) (kk : Nat) (hf : RdT w A f) (hr : RdS w B b) (h3 : b.length ≤ 3) (hs : ∀ s ∈ b, Rt s) (hc : firstBadT kk f = none) (hm : f.length ≤ 1000) :
    Calls Tryz.prog 104 #[.slice A f.length c, .slice B b.length d] w (RetX spR (foverF f b) w) := by
  have Hf := hid hf; have Hr := hid hr; have Hm := hid hm
  have Ho := hid (fun k (hk : k < f.length) W hW => one_any (f[k]?.getD default) B b d W kk hW h3 hs (firstBadT_at hc _ (by rw [List.getElem?_eq_getElem hk]; exact List.getElem_mem hk)))
  have HoM := hid (fun k (hk : k < f.length) x (h : oneF (f[k]?.getD default) b = .ok x) => oneG_M b 0 _ x (show M (f[k]?.getD default).by_ ∧ M (f[k]?.getD default).by_ from by
    have := (tcheck_ok (firstBadT_at hc (f[k]?.getD default) (by rw [List.getElem?_eq_getElem hk]; exact List.getElem_mem hk))).2.2
    exact ⟨this, this⟩) h)
  clear hf hr h3 hs hc hm
  go_enter Tryz.func104, Tryz.ntmps104
  go_wp2
  go_loopw [13] (fun i wr => ∃ (k : Nat) (s : Sp), k ≤ f.length ∧ i = .int .i64 k ∧ Hid (foverF f b = foverG b s (f.drop k)) ∧ M s.lo ∧ M s.hi ∧ Up w wr ∧
    (Cf wr w.heap.size 0 (.int .i64 0) ∧ Cf wr w.heap.size 1 (.int .i64 0)) ∧ (Cf wr (w.heap.size + 1) 0 (.int .i64 s.lo) ∧ Cf wr (w.heap.size + 1) 1 (.int .i64 s.hi)))
    (fun i _ => f.length - (intOf i).toNat)
  case atStart =>
    refine ⟨0, ⟨0, 0⟩, by omega, rfl, rfl, by decide, by decide, ?_, ⟨⟨by go_simp, by go_simp⟩, ⟨by go_simp, by go_simp⟩⟩, ⟨⟨by go_simp, by go_simp⟩, ⟨by go_simp, by go_simp⟩⟩⟩
    (repeat (first | (with_reducible exact Up.refl _) | (with_reducible assumption) | (with_reducible refine Up.alloc ?_ _) | (with_reducible refine Up.drew ?_) | ((with_reducible refine Up.set ?_ ?_ _); rotate_left; focus (first | omega | (simp; done) | (simp; omega))) | (with_reducible refine Up.drewN ?_ _) | (with_reducible refine Up.call ?_ (by with_reducible assumption))))
  case round =>
    obtain ⟨k, s, hk, rfl, H, m1, m2, hU, ⟨⟨c4, g4⟩, ⟨c5, g5⟩⟩, ⟨⟨c6, g6⟩, ⟨c7, g7⟩⟩⟩ := hrel
    have gr := (bcell hU).1
    have hle := hU.le
    have l1 := World.block_lt_of_cell? wr _ c6
    dsimp only at l1
    have l0 : w.heap.size < wr.heap.size := by omega
    by_cases hlt : k < f.length
    · obtain ⟨b1, o1, rfl, lb, cc⟩ := (Hf.out).at (by omega)
      obtain ⟨q1, q2, q3, q4⟩ := cc k hlt
      have j1 := (gr _ _ lb).trans q1
      have j2 := (gr _ _ lb).trans q2
      have j3 := (gr _ _ lb).trans q3
      have j4 := (gr _ _ lb).trans q4
      have lbr : b1 < wr.heap.size := by omega
      have z1 : w.heap.size < wr.heap.size + 1 := by omega
      have z2 : w.heap.size ≠ wr.heap.size + 1 := by omega
      have z3 : w.heap.size + 1 < wr.heap.size + 1 := by omega
      have z4 : w.heap.size + 1 ≠ wr.heap.size + 1 := by omega
      have z7 : b1 < wr.heap.size + 1 := by omega
      have z8 : b1 ≠ wr.heap.size + 1 := by omega
      have Hdr := hid (tdrop f k hlt)
      have Hlt := hid hlt
      have Hon := hid (fun W hW => Ho.out k hlt W hW)
      have HRM := hid (fun x h => HoM.out k hlt x h)
      have hdk : decide ((k : Int) < (f.length : Int)) = true := by simp; omega
      have hkm : (k : Int) < (f.length : Int) := by omega
      have hk0 : (0 : Int) ≤ (k : Int) := by omega
      have hk9 : (k : Int) < 1000 := by have := Hm.out; omega
      generalize f[k]?.getD default = t at *
      have M1 := hid m1; have M2 := hid m2
      clear cc q1 q2 q3 q4 gr hlt m1 m2
      cases hx2 : oneF t b with
      | error n2 =>
        have Hx2 := hid hx2; clear hx2
        go_wp2_with (first
                        | ((go_at_call 150; refine (Hon.out _ (Hr.out.up (by (repeat (first | (with_reducible exact Up.refl _) | (with_reducible assumption) | (with_reducible refine Up.alloc ?_ _) | (with_reducible refine Up.drew ?_) | ((with_reducible refine Up.set ?_ ?_ _); rotate_left; focus (first | omega | (simp; done) | (simp; omega))) | (with_reducible refine Up.drewN ?_ _) | (with_reducible refine Up.call ?_ (by with_reducible assumption))))))).mono ?_; rintro e w2 ⟨x2, hx2, rfl, hb2⟩); rw [Hx2.out] at hx2; subst hx2; obtain ⟨hc2, hf2⟩ := bcell hb2; obtain ⟨_, _⟩ : w.heap.size < w2.heap.size ∧ w.heap.size + 1 < w2.heap.size := (by have hle := Up.le hb2; first | omega | (simp at hle; omega) | (simp at hle; done)); have _ : wr.heap.size < w2.heap.size := (by have hle := Up.le hb2; first | omega | (simp at hle; omega) | (simp at hle; done)); (have _ : w.heap.size < w2.heap.size + 1 := (by omega)); (have _ : w.heap.size ≠ w2.heap.size := (by omega)); (have _ : w.heap.size + 1 ≠ w2.heap.size := (by omega)); (have _ : wr.heap.size < w2.heap.size + 1 := (by omega)); (have _ : wr.heap.size ≠ w2.heap.size := (by omega))))
        all_goals
          (refine bodyPost_res rfl ?_; simp only [results, Tryz.results104]; go_simp; refine resPost_ok ?_)
          refine RetX.mk (.error n2) ?_ ?_ rfl
          · (repeat (first | (with_reducible exact Up.refl _) | (with_reducible assumption) | (with_reducible refine Up.alloc ?_ _) | (with_reducible refine Up.drew ?_) | ((with_reducible refine Up.set ?_ ?_ _); rotate_left; focus (first | omega | (simp; done) | (simp; omega))) | (with_reducible refine Up.drewN ?_ _) | (with_reducible refine Up.call ?_ (by with_reducible assumption))))
          · rw [H.out, Hdr.out]; exact foverG_bad1 Hx2.out
      | ok r =>
        obtain ⟨m3, m4⟩ := HRM.out r hx2
        have Hsu := hid (fun W => sum_any s.lo s.hi r.lo r.hi W M1.out M2.out m3 m4)
        have Hx2 := hid hx2; clear hx2
        go_wp2_with (first
                        | ((go_at_call 150; refine (Hon.out _ (Hr.out.up (by (repeat (first | (with_reducible exact Up.refl _) | (with_reducible assumption) | (with_reducible refine Up.alloc ?_ _) | (with_reducible refine Up.drew ?_) | ((with_reducible refine Up.set ?_ ?_ _); rotate_left; focus (first | omega | (simp; done) | (simp; omega))) | (with_reducible refine Up.drewN ?_ _) | (with_reducible refine Up.call ?_ (by with_reducible assumption))))))).mono ?_; rintro e w2 ⟨x2, hx2, rfl, hb2⟩); rw [Hx2.out] at hx2; subst hx2; obtain ⟨hc2, hf2⟩ := bcell hb2; obtain ⟨_, _⟩ : w.heap.size < w2.heap.size ∧ w.heap.size + 1 < w2.heap.size := (by have hle := Up.le hb2; first | omega | (simp at hle; omega) | (simp at hle; done)); have _ : wr.heap.size < w2.heap.size := (by have hle := Up.le hb2; first | omega | (simp at hle; omega) | (simp at hle; done)); (have _ : w.heap.size < w2.heap.size + 1 := (by omega)); (have _ : w.heap.size ≠ w2.heap.size := (by omega)); (have _ : w.heap.size + 1 ≠ w2.heap.size := (by omega)); (have _ : wr.heap.size < w2.heap.size + 1 := (by omega)); (have _ : wr.heap.size ≠ w2.heap.size := (by omega)))
                        | ((go_at_call 105; refine (Hsu.out _).mono ?_; rintro e w4 ⟨(n4|u), hx4, rfl, hb4⟩)) <;> (obtain ⟨hc4, hf4⟩ := bcell hb4; obtain ⟨_, _⟩ : w.heap.size < w4.heap.size ∧ w.heap.size + 1 < w4.heap.size := (by have hle := Up.le hb4; first | omega | (simp at hle; omega) | (simp at hle; done)); have _ : wr.heap.size < w4.heap.size := (by have hle := Up.le hb4; first | omega | (simp at hle; omega) | (simp at hle; done)); (try (have _ : wr.heap.size + 1 < w4.heap.size := (by have hle := Up.le hb4; simp at hle; omega))); (try (have _ : w2.heap.size < w4.heap.size := (by have hle := Up.le hb4; simp at hle; omega)))))
        all_goals
          first
            | ((refine bodyPost_res rfl ?_; simp only [results, Tryz.results104]; go_simp; refine resPost_ok ?_)
               refine RetX.mk (.error n4) ?_ ?_ rfl
               · (repeat (first | (with_reducible exact Up.refl _) | (with_reducible assumption) | (with_reducible refine Up.alloc ?_ _) | (with_reducible refine Up.drew ?_) | ((with_reducible refine Up.set ?_ ?_ _); rotate_left; focus (first | omega | (simp; done) | (simp; omega))) | (with_reducible refine Up.drewN ?_ _) | (with_reducible refine Up.call ?_ (by with_reducible assumption))))
               · rw [H.out, Hdr.out]; exact foverG_bad2 Hx2.out hx4)
            | (go_roundw
               case rel =>
                 have hM := sum_M hx4
                 refine ⟨k + 1, u, by have := Hlt.out; omega, by go_num, ?_, hM.1, hM.2, ?_, ⟨⟨by go_simp, by go_simp⟩, ⟨by go_simp, by go_simp⟩⟩, ⟨⟨?_, by go_simp⟩, ⟨?_, by go_simp⟩⟩⟩
                 · show _ = _
                   rw [H.out, Hdr.out]; exact foverG_good Hx2.out hx4
                 · (repeat (first | (with_reducible exact Up.refl _) | (with_reducible assumption) | (with_reducible refine Up.alloc ?_ _) | (with_reducible refine Up.drew ?_) | ((with_reducible refine Up.set ?_ ?_ _); rotate_left; focus (first | omega | (simp; done) | (simp; omega))) | (with_reducible refine Up.drewN ?_ _) | (with_reducible refine Up.call ?_ (by with_reducible assumption))))
                 · first
                   | (refine World.cell?_setCell_same' _ _ _ ?_; go_simp; done)
                   | (refine (World.cell?_setCell_other _ _ _ _ ?_).trans ?_; (focus (simp; done)); refine World.cell?_setCell_same' _ _ _ ?_; go_simp; done)
                 · first
                   | (refine World.cell?_setCell_same' _ _ _ ?_; go_simp; done)
                   | (refine (World.cell?_setCell_other _ _ _ _ ?_).trans ?_; (focus (simp; done)); refine World.cell?_setCell_same' _ _ _ ?_; go_simp; done)
               case measure => have := Hlt.out; simp [intOf]; omega)
    · obtain rfl : k = f.length := by omega
      go_wp2
      (refine bodyPost_res rfl ?_; simp only [results, Tryz.results104]; go_simp; refine resPost_ok ?_)
      refine RetX.mk (.ok s) ?_ ?_ rfl
      · (repeat (first | (with_reducible exact Up.refl _) | (with_reducible assumption) | (with_reducible refine Up.alloc ?_ _) | (with_reducible refine Up.drew ?_) | ((with_reducible refine Up.set ?_ ?_ _); rotate_left; focus (first | omega | (simp; done) | (simp; omega))) | (with_reducible refine Up.drewN ?_ _) | (with_reducible refine Up.call ?_ (by with_reducible assumption))))
      · rw [H.out, List.drop_length]; rfl
theorem tfew {f : List Tm} {n : Nat} (h : fcheckF f (n : Int) = none) : f.length ≤ 1000 := by have := (fcheck_ok h).2.2.1; omega
end Go.Proofs.YtmjcnpolnknkkaaGreatDoor
