/- The walks of the reference's systems: System, Ready, Next. -/
import Derived.Test.YteoomjenekkomaaDoorRffb
import Derived.Test.YteoomjenekkomaaDoorRfbb
import Derived.Test.YteoomjenekkomaaDoorStepb

set_option linter.unusedVariables false
set_option linter.unusedSimpArgs false
namespace Go.Proofs.YteoomjenekkomaaDoor
open Go.RowKit

theorem nnf {e : Nat} (h : e = 1 ∨ e = 4 ∨ e = 3) : ((e : Int) != 0) = true := by rcases h with rfl | rfl | rfl <;> rfl
theorem firstBadF_num {k : Int} : ∀ {l : List (List Tm)} {e : Nat}, firstBadF k l = some e → e = 1 ∨ e = 4 ∨ e = 3
  | [], e, h => by cases h
  | f :: l, e, h => by
    unfold firstBadF at h
    split at h
    · rename_i h1; injection h with h; subst h; exact fcheck_num h1
    · exact firstBadF_num h
theorem ycheck_num {s : Sy} {e : Nat} (h : ycheckF s = some e) : e = 5 ∨ e = 4 ∨ e = 1 ∨ e = 3 := by
  unfold ycheckF at h
  split at h
  · injection h with h; omega
  · split at h
    · injection h with h; omega
    · split at h
      · injection h with h; omega
      · split at h
        · rename_i h1; injection h with h; subst h; have := firstBadF_num h1; omega
        · have := firstBad_num h; omega
theorem ready_num {s : Sy} {b : List Sp} {e : Nat} (h : readyF s b = some e) : e = 5 ∨ e = 4 ∨ e = 1 ∨ e = 3 := by
  unfold readyF at h
  split at h
  · rename_i h1; injection h with h; subst h; exact ycheck_num h1
  · split at h
    · rename_i h1; injection h with h; subst h; exact bcheck_num h1
    · split at h
      · cases h
      · injection h with h; omega
set_option maxRecDepth 100000 in
set_option maxHeartbeats 4000000 in
theorem rsys_any (A B : Option Addr) (s : Sy) (c d : Nat) (w : World) (hY : RY w A B s) :
    Calls Tryd.prog 19 #[.agg #[.slice A s.next.length c, .slice B s.push.length d]] w (RetX numV (ycheckF s) w) := by
  have Hn := hid hY.next; have Hp := hid hY.push; clear hY
  by_cases h0 : s.next.length = 0
  · have hrr : ycheckF s = some 5 := by unfold ycheckF; rw [if_pos h0]
    rw [hrr]
    have hd : ((s.next.length : Int) == 0) = true := beq_iff_eq.2 (by omega)
    clear hrr h0
    go_enter Tryd.func19, Tryd.ntmps19
    go_wp2
    go_ret
    exact RetX.mk (some 5) (by (repeat (first | (with_reducible exact Up.refl _) | (with_reducible assumption) | (with_reducible refine Up.alloc ?_ _) | (with_reducible refine Up.drew ?_) | ((with_reducible refine Up.set ?_ ?_ _); rotate_left; focus (first | omega | (simp; done) | (simp; omega))) | (with_reducible refine Up.drewN ?_ _) | (with_reducible refine Up.call ?_ (by with_reducible assumption))))) rfl rfl
  by_cases h3 : 3 < s.next.length
  · have hrr : ycheckF s = some 4 := by unfold ycheckF; rw [if_neg h0, if_pos h3]
    rw [hrr]
    have hd : ((s.next.length : Int) == 0) = false := beq_false_of_ne (by omega)
    have hd3 : decide (3 < (s.next.length : Int)) = true := decide_eq_true (by omega)
    clear hrr h0 h3
    go_enter Tryd.func19, Tryd.ntmps19
    go_wp2
    go_ret
    exact RetX.mk (some 4) (by (repeat (first | (with_reducible exact Up.refl _) | (with_reducible assumption) | (with_reducible refine Up.alloc ?_ _) | (with_reducible refine Up.drew ?_) | ((with_reducible refine Up.set ?_ ?_ _); rotate_left; focus (first | omega | (simp; done) | (simp; omega))) | (with_reducible refine Up.drewN ?_ _) | (with_reducible refine Up.call ?_ (by with_reducible assumption))))) rfl rfl
  have hd : ((s.next.length : Int) == 0) = false := beq_false_of_ne (by omega)
  have hd3 : decide (3 < (s.next.length : Int)) = false := decide_eq_false (by omega)
  by_cases hl : s.push.length = s.next.length
  · have hrr : ycheckF s = (match firstBadF s.next.length s.next with | some e => some e | none => firstBad s.push) := by unfold ycheckF; rw [if_neg h0, if_neg h3, if_neg (by simpa using hl)]; cases firstBadF s.next.length s.next <;> rfl
    have Hrr := hid hrr
    have hdl : ((s.push.length : Int) != (s.next.length : Int)) = false := by simp; omega
    have H0 := hid h0; have H3 := hid h3; have HL := hid hl
    clear hrr h0 h3 hl
    go_enter Tryd.func19, Tryd.ntmps19
    go_wp2
    go_loopw [3] (fun i wr => ∃ k : Nat, k ≤ s.next.length ∧ i = .int .i64 k ∧ Hid (firstBadF s.next.length s.next = firstBadF s.next.length (s.next.drop k)) ∧ Up w wr ∧
      (Cf wr w.heap.size 0 (.slice A s.next.length c) ∧ Cf wr w.heap.size 1 (.slice B s.push.length d))) (fun i _ => s.next.length - (intOf i).toNat)
    case atStart =>
      refine ⟨0, by omega, rfl, rfl, ?_, ⟨⟨by go_simp, by go_simp⟩, ⟨by go_simp, by go_simp⟩⟩⟩
      (repeat (first | (with_reducible exact Up.refl _) | (with_reducible assumption) | (with_reducible refine Up.alloc ?_ _) | (with_reducible refine Up.drew ?_) | ((with_reducible refine Up.set ?_ ?_ _); rotate_left; focus (first | omega | (simp; done) | (simp; omega))) | (with_reducible refine Up.drewN ?_ _) | (with_reducible refine Up.call ?_ (by with_reducible assumption))))
    case round =>
      obtain ⟨k, hk, rfl, H, hU, ⟨c0, g0⟩, ⟨c1, g1⟩⟩ := hrel
      have gr := (bcell hU).1
      have hle := hU.le
      have l0 := World.block_lt_of_cell? wr _ c0
      dsimp only at l0
      by_cases hlt : k < s.next.length
      · obtain ⟨b1, o1, rfl, lb, cc⟩ := (Hn.out).at (by omega)
        obtain ⟨A2, c2, q1, q2, q3⟩ := cc k hlt
        have j1 := (gr _ _ lb).trans q1
        have lbr : b1 < wr.heap.size := by omega
        have Hdr := hid (fdrop s.next k hlt)
        have Hlt := hid hlt
        have Hq := hid q3
        have hdk : decide ((k : Int) < (s.next.length : Int)) = true := by simp; omega
        have hk0 : (0 : Int) ≤ (k : Int) := by omega
        have hkm : (k : Int) < (s.next.length : Int) := by omega
        have hk9 : (k : Int) < 3 := by have := H3.out; omega
        generalize s.next[k]?.getD [] = f at *
        clear cc q1 q2 q3 gr hlt
        cases hfc : fcheckF f (s.next.length : Int) with
        | none =>
          have Hfc := hid hfc; clear hfc
          go_wp2_with fail
          go_region_law (go_simp; (go_at_call 38; refine (rform_any A2 f c2 _ _ (Hq.out.up (by (repeat (first | (with_reducible exact Up.refl _) | (with_reducible assumption) | (with_reducible refine Up.alloc ?_ _) | (with_reducible refine Up.drew ?_) | ((with_reducible refine Up.set ?_ ?_ _); rotate_left; focus (first | omega | (simp; done) | (simp; omega))) | (with_reducible refine Up.drewN ?_ _) | (with_reducible refine Up.call ?_ (by with_reducible assumption))))))).mono ?_; rintro e w2 ⟨x2, hx2, rfl, hb2⟩); rw [Hfc.out] at hx2; subst hx2; have hbr : Up wr w2 := (by (repeat (first | (with_reducible exact Up.refl _) | (with_reducible assumption) | (with_reducible refine Up.alloc ?_ _) | (with_reducible refine Up.drew ?_) | ((with_reducible refine Up.set ?_ ?_ _); rotate_left; focus (first | omega | (simp; done) | (simp; omega))) | (with_reducible refine Up.drewN ?_ _) | (with_reducible refine Up.call ?_ (by with_reducible assumption))))); obtain ⟨hc2, hf2⟩ := bcell hbr; have _ : w.heap.size < w2.heap.size := (by have hle := Up.le hbr; first | omega | (simp at hle; omega) | (simp at hle; done)); clear hbr)
          all_goals go_wp2
          all_goals
            go_roundw
            case rel =>
              refine ⟨k + 1, by have := Hlt.out; omega, by go_num, ?_, ?_, ⟨⟨by go_simp, by go_simp⟩, ⟨by go_simp, by go_simp⟩⟩⟩
              · show _ = _
                rw [H.out, Hdr.out, fbF_none Hfc.out]
              · (repeat (first | (with_reducible exact Up.refl _) | (with_reducible assumption) | (with_reducible refine Up.alloc ?_ _) | (with_reducible refine Up.drew ?_) | ((with_reducible refine Up.set ?_ ?_ _); rotate_left; focus (first | omega | (simp; done) | (simp; omega))) | (with_reducible refine Up.drewN ?_ _) | (with_reducible refine Up.call ?_ (by with_reducible assumption))))
            case measure => have := Hlt.out; simp [intOf]; omega
        | some n2 =>
          have q2 := nnf (fcheck_num hfc)
          have Hfc := hid hfc; clear hfc
          go_wp2_with fail
          go_region_law (go_simp; (go_at_call 38; refine (rform_any A2 f c2 _ _ (Hq.out.up (by (repeat (first | (with_reducible exact Up.refl _) | (with_reducible assumption) | (with_reducible refine Up.alloc ?_ _) | (with_reducible refine Up.drew ?_) | ((with_reducible refine Up.set ?_ ?_ _); rotate_left; focus (first | omega | (simp; done) | (simp; omega))) | (with_reducible refine Up.drewN ?_ _) | (with_reducible refine Up.call ?_ (by with_reducible assumption))))))).mono ?_; rintro e w2 ⟨x2, hx2, rfl, hb2⟩); rw [Hfc.out] at hx2; subst hx2)
          all_goals go_wp2
          all_goals
            go_ret
            refine RetX.mk (some n2) ?_ ?_ rfl
            · (repeat (first | (with_reducible exact Up.refl _) | (with_reducible assumption) | (with_reducible refine Up.alloc ?_ _) | (with_reducible refine Up.drew ?_) | ((with_reducible refine Up.set ?_ ?_ _); rotate_left; focus (first | omega | (simp; done) | (simp; omega))) | (with_reducible refine Up.drewN ?_ _) | (with_reducible refine Up.call ?_ (by with_reducible assumption))))
            · rw [Hrr.out, H.out, Hdr.out, fbF_some Hfc.out]
      · obtain rfl : k = s.next.length := by omega
        have Hfin := hid (show ycheckF s = firstBad s.push by rw [Hrr.out, H.out, List.drop_length]; rfl)
        have HU := hid hU
        clear gr H
        go_wp2
        go_loopw [5] (fun i wr2 => ∃ k : Nat, k ≤ s.push.length ∧ i = .int .i64 k ∧ Hid (firstBad s.push = firstBad (s.push.drop k)) ∧ Up w wr2 ∧
          (Cf wr2 w.heap.size 0 (.slice A s.next.length c) ∧ Cf wr2 w.heap.size 1 (.slice B s.push.length d))) (fun i _ => s.push.length - (intOf i).toNat)
        case atStart => exact ⟨0, by omega, rfl, rfl, HU.out, ⟨c0, g0⟩, ⟨c1, g1⟩⟩
        case round =>
          clear hU c0 g0 c1 g1 l0 hle
          obtain ⟨k, hk, rfl, H, hU, ⟨c0, g0⟩, ⟨c1, g1⟩⟩ := hrel
          have gr := (bcell hU).1
          have hle := hU.le
          have l0 := World.block_lt_of_cell? wr _ c0
          dsimp only at l0
          by_cases hlt : k < s.push.length
          · obtain ⟨b1, o1, rfl, lb, cc⟩ := (Hp.out).at (by omega)
            obtain ⟨q1, q2⟩ := cc k hlt
            have j1 := (gr _ _ lb).trans q1
            have j2 := (gr _ _ lb).trans q2
            have lbr : b1 < wr.heap.size := by omega
            have Hdr := hid (sdrop s.push k hlt)
            have Hlt := hid hlt
            have hdk : decide ((k : Int) < (s.push.length : Int)) = true := by simp; omega
            have hk0 : (0 : Int) ≤ (k : Int) := by omega
            have hkm : (k : Int) < (s.push.length : Int) := by omega
            have hk9 : (k : Int) < 3 := by have := H3.out; have := HL.out; omega
            generalize s.push[k]?.getD ⟨0, 0⟩ = p at *
            clear cc q1 q2 gr hlt
            go_wp2_with (first
              | (go_at_call 65; refine (rspan_any _ _ _).mono ?_; rintro e w2 ⟨(_|n2), hx2, rfl, hb2⟩) <;> (obtain ⟨hc2, hf2⟩ := bcell hb2; have _ : w.heap.size < w2.heap.size := (by have hle := Up.le hb2; first | omega | (simp at hle; omega) | (simp at hle; done)); (try have q2 := nn13 (check_num hx2))))
            · go_roundw
              case rel =>
                refine ⟨k + 1, by have := Hlt.out; omega, by go_num, ?_, ?_, ⟨⟨by go_simp, by go_simp⟩, ⟨by go_simp, by go_simp⟩⟩⟩
                · show _ = _
                  rw [H.out, Hdr.out, fbS_none hx2]
                · (repeat (first | (with_reducible exact Up.refl _) | (with_reducible assumption) | (with_reducible refine Up.alloc ?_ _) | (with_reducible refine Up.drew ?_) | ((with_reducible refine Up.set ?_ ?_ _); rotate_left; focus (first | omega | (simp; done) | (simp; omega))) | (with_reducible refine Up.drewN ?_ _) | (with_reducible refine Up.call ?_ (by with_reducible assumption))))
              case measure => have := Hlt.out; simp [intOf]; omega
            · go_ret
              refine RetX.mk (some n2) ?_ ?_ rfl
              · (repeat (first | (with_reducible exact Up.refl _) | (with_reducible assumption) | (with_reducible refine Up.alloc ?_ _) | (with_reducible refine Up.drew ?_) | ((with_reducible refine Up.set ?_ ?_ _); rotate_left; focus (first | omega | (simp; done) | (simp; omega))) | (with_reducible refine Up.drewN ?_ _) | (with_reducible refine Up.call ?_ (by with_reducible assumption))))
              · rw [Hfin.out, H.out, Hdr.out, fbS_some hx2]
          · obtain rfl : k = s.push.length := by omega
            go_wp2
            go_ret
            refine RetX.mk none hU ?_ rfl
            rw [Hfin.out, H.out, List.drop_length]; rfl
  · have hrr : ycheckF s = some 3 := by unfold ycheckF; rw [if_neg h0, if_neg h3, if_pos hl]
    rw [hrr]
    have hdl : ((s.push.length : Int) != (s.next.length : Int)) = true := by simp; omega
    clear hrr h0 h3 hl
    go_enter Tryd.func19, Tryd.ntmps19
    go_wp2
    go_ret
    exact RetX.mk (some 3) (by (repeat (first | (with_reducible exact Up.refl _) | (with_reducible assumption) | (with_reducible refine Up.alloc ?_ _) | (with_reducible refine Up.drew ?_) | ((with_reducible refine Up.set ?_ ?_ _); rotate_left; focus (first | omega | (simp; done) | (simp; omega))) | (with_reducible refine Up.drewN ?_ _) | (with_reducible refine Up.call ?_ (by with_reducible assumption))))) rfl rfl
theorem rready_any (A B C : Option Addr) (s : Sy) (b : List Sp) (c d e : Nat) (w : World) (hY : RY w A B s) (hb : RdS w C b) :
    Calls Tryd.prog 25 #[.agg #[.slice A s.next.length c, .slice B s.push.length d], .slice C b.length e] w (RetX numV (readyF s b) w) := by
  have HY := hid hY; have Hb := hid hb; clear hY hb
  by_cases hl : b.length = s.next.length
  all_goals
    have Hl := hid hl
    first
      | have hdl : ((b.length : Int) != (s.next.length : Int)) = false := by simp; omega
      | have hdl : ((b.length : Int) != (s.next.length : Int)) = true := by simp; omega
    clear hl
    go_enter Tryd.func25, Tryd.ntmps25
    go_wp2_with (first
      | ((go_at_call 19; (with_reducible refine (rsys_any _ _ s _ _ _ (HY.out.up (by (repeat (first | (with_reducible exact Up.refl _) | (with_reducible assumption) | (with_reducible refine Up.alloc ?_ _) | (with_reducible refine Up.drew ?_) | ((with_reducible refine Up.set ?_ ?_ _); rotate_left; focus (first | omega | (simp; done) | (simp; omega))) | (with_reducible refine Up.drewN ?_ _) | (with_reducible refine Up.call ?_ (by with_reducible assumption))))))).mono ?_); rintro e w1 ⟨(_|n1), hx1, rfl, hb1⟩ <;> ((try have q1 := nzb (ycheck_num hx1)))) <;> (have hle := Up.le hb1; (try simp only [World.size_alloc, World.size_setCell, World.size_drew, World.heap_drewN] at hle); (try (have _ : w.heap.size < w1.heap.size := (by omega); (try (apply fk hb1 (w.heap.size); (focus (go_simp; rfl)); (focus (intro o; go_simp)); intro z; (try clear f_0); have f_0 := z; clear z)); (try (apply ck hb1 (w.heap.size) 0; (focus (go_simp; rfl)); intro z; (try clear c_0_0); have c_0_0 := z; clear z; (try (apply ck hb1 (w.heap.size) 1; (focus (go_simp; rfl)); intro z; (try clear c_0_1); have c_0_1 := z; clear z)))); (try (have _ : w.heap.size + 1 < w1.heap.size := (by omega); (try (apply fk hb1 (w.heap.size + 1); (focus (go_simp; rfl)); (focus (intro o; go_simp)); intro z; (try clear f_1); have f_1 := z; clear z)); (try (apply ck hb1 (w.heap.size + 1) 0; (focus (go_simp; rfl)); intro z; (try clear c_1_0); have c_1_0 := z; clear z; (try (apply ck hb1 (w.heap.size + 1) 1; (focus (go_simp; rfl)); intro z; (try clear c_1_1); have c_1_1 := z; clear z)))))))); clear hle; (try (apply old_keep (w0 := w) (w := w1); (focus ((repeat (first | (with_reducible exact Up.refl _) | (with_reducible assumption) | (with_reducible refine Up.alloc ?_ _) | (with_reducible refine Up.drew ?_) | ((with_reducible refine Up.set ?_ ?_ _); rotate_left; focus (first | omega | (simp; done) | (simp; omega))) | (with_reducible refine Up.drewN ?_ _) | (with_reducible refine Up.call ?_ (by with_reducible assumption)))))); intro y z; (try clear hUp); (try clear hOld); have hUp := y; have hOld := z; clear y z))))
      | ((go_at_call 14; (with_reducible refine (rbox_any _ _ _ _ (Hb.out.up (by (repeat (first | (with_reducible exact Up.refl _) | (with_reducible assumption) | (with_reducible refine Up.alloc ?_ _) | (with_reducible refine Up.drew ?_) | ((with_reducible refine Up.set ?_ ?_ _); rotate_left; focus (first | omega | (simp; done) | (simp; omega))) | (with_reducible refine Up.drewN ?_ _) | (with_reducible refine Up.call ?_ (by with_reducible assumption))))))).mono ?_); rintro e w2 ⟨(_|n2), hx2, rfl, hb2⟩ <;> ((try have q2 := nzb (bcheck_num hx2)))) <;> (have hle := Up.le hb2; (try simp only [World.size_alloc, World.size_setCell, World.size_drew, World.heap_drewN] at hle); (try (have _ : w.heap.size < w2.heap.size := (by omega); (try (apply fk hb2 (w.heap.size); (focus (go_simp; rfl)); (focus (intro o; go_simp)); intro z; (try clear f_0); have f_0 := z; clear z)); (try (apply ck hb2 (w.heap.size) 0; (focus (go_simp; rfl)); intro z; (try clear c_0_0); have c_0_0 := z; clear z; (try (apply ck hb2 (w.heap.size) 1; (focus (go_simp; rfl)); intro z; (try clear c_0_1); have c_0_1 := z; clear z)))); (try (have _ : w.heap.size + 1 < w2.heap.size := (by omega); (try (apply fk hb2 (w.heap.size + 1); (focus (go_simp; rfl)); (focus (intro o; go_simp)); intro z; (try clear f_1); have f_1 := z; clear z)); (try (apply ck hb2 (w.heap.size + 1) 0; (focus (go_simp; rfl)); intro z; (try clear c_1_0); have c_1_0 := z; clear z; (try (apply ck hb2 (w.heap.size + 1) 1; (focus (go_simp; rfl)); intro z; (try clear c_1_1); have c_1_1 := z; clear z)))))))); (try (have _ : w1.heap.size < w2.heap.size := (by omega); (try (apply fk hb2 (w1.heap.size); (focus (go_simp; rfl)); (focus (intro o; go_simp)); intro z; (try clear f1_0); have f1_0 := z; clear z)); (try (apply ck hb2 (w1.heap.size) 0; (focus (go_simp; rfl)); intro z; (try clear c1_0_0); have c1_0_0 := z; clear z; (try (apply ck hb2 (w1.heap.size) 1; (focus (go_simp; rfl)); intro z; (try clear c1_0_1); have c1_0_1 := z; clear z)))); (try (have _ : w1.heap.size + 1 < w2.heap.size := (by omega); (try (apply fk hb2 (w1.heap.size + 1); (focus (go_simp; rfl)); (focus (intro o; go_simp)); intro z; (try clear f1_1); have f1_1 := z; clear z)); (try (apply ck hb2 (w1.heap.size + 1) 0; (focus (go_simp; rfl)); intro z; (try clear c1_1_0); have c1_1_0 := z; clear z; (try (apply ck hb2 (w1.heap.size + 1) 1; (focus (go_simp; rfl)); intro z; (try clear c1_1_1); have c1_1_1 := z; clear z)))))))); clear hle; (try (apply old_keep (w0 := w) (w := w2); (focus ((repeat (first | (with_reducible exact Up.refl _) | (with_reducible assumption) | (with_reducible refine Up.alloc ?_ _) | (with_reducible refine Up.drew ?_) | ((with_reducible refine Up.set ?_ ?_ _); rotate_left; focus (first | omega | (simp; done) | (simp; omega))) | (with_reducible refine Up.drewN ?_ _) | (with_reducible refine Up.call ?_ (by with_reducible assumption)))))); intro y z; (try clear hUp); (try clear hOld); have hUp := y; have hOld := z; clear y z)))))
    all_goals
      go_ret
      first
        | (refine RetX.mk (some n1) ?_ ?_ rfl; rotate_left; (focus (simp only [readyF, hx1])))
        | (refine RetX.mk (some n2) ?_ ?_ rfl; rotate_left; (focus (simp only [readyF, hx1, hx2])))
        | (refine RetX.mk none ?_ ?_ rfl; rotate_left; (focus (simp only [readyF, hx1, hx2]; rw [if_pos Hl.out])))
        | (refine RetX.mk (some 3) ?_ ?_ rfl; rotate_left; (focus (simp only [readyF, hx1, hx2]; rw [if_neg Hl.out])))
      (repeat (first | (with_reducible exact Up.refl _) | (with_reducible assumption) | (with_reducible refine Up.alloc ?_ _) | (with_reducible refine Up.drew ?_) | ((with_reducible refine Up.set ?_ ?_ _); rotate_left; focus (first | omega | (simp; done) | (simp; omega))) | (with_reducible refine Up.drewN ?_ _) | (with_reducible refine Up.call ?_ (by with_reducible assumption))))
end Go.Proofs.YteoomjenekkomaaDoor
