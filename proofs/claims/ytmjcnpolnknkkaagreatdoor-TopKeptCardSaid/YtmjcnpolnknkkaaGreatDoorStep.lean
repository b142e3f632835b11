/- The walks of package step. -/
import Derived.Test.YtmjcnpolnknkkaaGreatDoorForme
import Derived.Test.YtmjcnpolnknkkaaGreatDoorBoxd
import Derived.Test.YtmjcnpolnknkkaaGreatDoorOwnS
import Derived.Test.YtmjcnpolnknkkaaGreatDoorOwnk

set_option linter.unusedVariables false
set_option linter.unusedSimpArgs false
namespace Go.Proofs.YtmjcnpolnknkkaaGreatDoor
open Go.RowKit

/-- A system, as it lies in memory. -/
structure RY (w : World) (A B : Option Addr) (s : Sy) : Prop where
  next : RdN w A s.next
  push : RdS w B s.push
theorem RY.up {w w' : World} {A B : Option Addr} {s : Sy} (h : RY w A B s) (hu : Up w w') : RY w' A B s := ⟨RdN.up h.next hu, h.push.up hu⟩
theorem LY.ry {w : World} {A B : Option Addr} {s : Sy} {c d : Nat} (h : LY w A B s c d) : RY w A B s := ⟨h.next, h.push⟩
theorem fdrop (l : List (List Tm)) (k : Nat) (h : k < l.length) : l.drop k = (l[k]?.getD []) :: l.drop (k + 1) := by
  rw [List.drop_eq_getElem_cons h, List.getElem?_eq_getElem h]; rfl
theorem fbF_none {k : Int} {f : List Tm} {l : List (List Tm)} (h : fcheckF f k = none) : firstBadF k (f :: l) = firstBadF k l := by
  conv => lhs; unfold firstBadF
  rw [h]
theorem fbF_some {k : Int} {f : List Tm} {l : List (List Tm)} {e : Nat} (h : fcheckF f k = some e) : firstBadF k (f :: l) = some e := by
  unfold firstBadF; rw [h]
theorem fbS_none {p : Sp} {l : List Sp} (h : checkF p = none) : firstBad (p :: l) = firstBad l := by
  conv => lhs; unfold firstBad
  rw [h]
theorem fbS_some {p : Sp} {l : List Sp} {e : Nat} (h : checkF p = some e) : firstBad (p :: l) = some e := by
  unfold firstBad; rw [h]
set_option maxRecDepth 100000 in
set_option maxHeartbeats 4000000 in
theorem ycheck_any (A B : Option Addr) (s : Sy) (c d : Nat) (w : World) (hY : RY w A B s) :
    Calls Tryz.prog 103 #[.agg #[.slice A s.next.length c, .slice B s.push.length d]] w (RetX errV (ycheckF s) w) := by
  have Hn := hid hY.next; have Hp := hid hY.push; clear hY
  by_cases h0 : s.next.length = 0
  · have hrr : ycheckF s = some 5 := by unfold ycheckF; rw [if_pos h0]
    rw [hrr]
    have hd : ((s.next.length : Int) == 0) = true := beq_iff_eq.2 (by omega)
    clear hrr h0
    go_enter Tryz.func103, Tryz.ntmps103
    go_wp2
    go_ret
    exact RetX.mk (some 5) (by (repeat (first | (with_reducible exact Up.refl _) | (with_reducible assumption) | (with_reducible refine Up.alloc ?_ _) | (with_reducible refine Up.drew ?_) | ((with_reducible refine Up.set ?_ ?_ _); rotate_left; focus (first | omega | (simp; done) | (simp; omega))) | (with_reducible refine Up.drewN ?_ _) | (with_reducible refine Up.call ?_ (by with_reducible assumption))))) rfl rfl
  by_cases h3 : 3 < s.next.length
  · have hrr : ycheckF s = some 4 := by unfold ycheckF; rw [if_neg h0, if_pos h3]
    rw [hrr]
    have hd : ((s.next.length : Int) == 0) = false := beq_false_of_ne (by omega)
    have hd3 : decide (3 < (s.next.length : Int)) = true := decide_eq_true (by omega)
    clear hrr h0 h3
    go_enter Tryz.func103, Tryz.ntmps103
    go_wp2
    go_ret
    exact RetX.mk (some 4) (by (repeat (first | (with_reducible exact Up.refl _) | (with_reducible assumption) | (with_reducible refine Up.alloc ?_ _) | (with_reducible refine Up.drew ?_) | ((with_reducible refine Up.set ?_ ?_ _); rotate_left; focus (first | omega | (simp; done) | (simp; omega))) | (with_reducible refine Up.drewN ?_ _) | (with_reducible refine Up.call ?_ (by with_reducible assumption))))) rfl rfl
  have hd : ((s.next.length : Int) == 0) = false := beq_false_of_ne (by omega)
  have hd3 : decide (3 < (s.next.length : Int)) = false := decide_eq_false (by omega)
  by_cases hl : s.push.length = s.next.length
  · have hrr : ycheckF s = (match firstBadF s.next.length s.next with | some e => some e | none => firstBad s.push) := by unfold ycheckF; rw [if_neg h0, if_neg h3, if_neg (by simpa using hl)]; cases firstBadF s.next.length s.next <;> rfl
    have Hrr := hid hrr
    have hdl : ((s.push.length : Int) != (s.next.length : Int)) = false := by simp; omega
    have H0 := hid h0; have H3 := hid h3; have HL := hid hl
    clear hrr h0 h3 hl
    go_enter Tryz.func103, Tryz.ntmps103
    go_wp2
    go_loopw [33] (fun i wr => ∃ k : Nat, k ≤ s.next.length ∧ i = .int .i64 k ∧ Hid (firstBadF s.next.length s.next = firstBadF s.next.length (s.next.drop k)) ∧ Up w wr ∧
      (Cf wr w.heap.size 0 (.slice A s.next.length c) ∧ Cf wr w.heap.size 1 (.slice B s.push.length d))) (fun i _ => s.next.length - (intOf i).toNat)
    case atStart =>
      refine ⟨0, by omega, rfl, rfl, ?_, ⟨⟨by go_simp, by go_simp⟩, ⟨by go_simp, by go_simp⟩⟩⟩
      (repeat (first | (with_reducible exact Up.refl _) | (with_reducible assumption) | (with_reducible refine Up.alloc ?_ _) | (with_reducible refine Up.drew ?_) | ((with_reducible refine Up.set ?_ ?_ _); rotate_left; focus (first | omega | (simp; done) | (simp; omega))) | (with_reducible refine Up.drewN ?_ _) | (with_reducible refine Up.call ?_ (by with_reducible assumption))))
    case round =>
      obtain ⟨k, hk, rfl, H, hU, ⟨c0, g0⟩, ⟨c1, g1⟩⟩ := hrel
      have gr := (bcell hU).1
      have hle := hU.le
      have l0 := World.block_lt_of_cell? wr _ c0
      dsimp only at l0
      by_cases hlt : k < s.next.length
      · obtain ⟨b1, o1, rfl, lb, cc⟩ := (Hn.out).at (by omega)
        obtain ⟨A2, c2, q1, q2, q3⟩ := cc k hlt
        have j1 := (gr _ _ lb).trans q1
        have lbr : b1 < wr.heap.size := by omega
        have Hdr := hid (fdrop s.next k hlt)
        have Hlt := hid hlt
        have Hq := hid q3
        have hdk : decide ((k : Int) < (s.next.length : Int)) = true := by simp; omega
        have hk0 : (0 : Int) ≤ (k : Int) := by omega
        have hkm : (k : Int) < (s.next.length : Int) := by omega
        have hk9 : (k : Int) < 3 := by have := H3.out; omega
        generalize s.next[k]?.getD [] = f at *
        clear cc q1 q2 q3 gr hlt
        go_wp2_with (first
                        | (go_at_call 149; refine (fcheck_any A2 f c2 _ _ (Hq.out.up (by (repeat (first | (with_reducible exact Up.refl _) | (with_reducible assumption) | (with_reducible refine Up.alloc ?_ _) | (with_reducible refine Up.drew ?_) | ((with_reducible refine Up.set ?_ ?_ _); rotate_left; focus (first | omega | (simp; done) | (simp; omega))) | (with_reducible refine Up.drewN ?_ _) | (with_reducible refine Up.call ?_ (by with_reducible assumption))))))).mono ?_; rintro e w2 ⟨(_|n2), hx2, rfl, hb2⟩) <;> (obtain ⟨hc2, hf2⟩ := bcell hb2; have _ : w.heap.size < w2.heap.size := (by have hle := Up.le hb2; first | omega | (simp at hle; omega) | (simp at hle; done))))
        · go_roundw
          case rel =>
            refine ⟨k + 1, by have := Hlt.out; omega, by go_num, ?_, ?_, ⟨⟨by go_simp, by go_simp⟩, ⟨by go_simp, by go_simp⟩⟩⟩
            · show _ = _
              rw [H.out, Hdr.out, fbF_none hx2]
            · (repeat (first | (with_reducible exact Up.refl _) | (with_reducible assumption) | (with_reducible refine Up.alloc ?_ _) | (with_reducible refine Up.drew ?_) | ((with_reducible refine Up.set ?_ ?_ _); rotate_left; focus (first | omega | (simp; done) | (simp; omega))) | (with_reducible refine Up.drewN ?_ _) | (with_reducible refine Up.call ?_ (by with_reducible assumption))))
          case measure => have := Hlt.out; simp [intOf]; omega
        · go_ret
          refine RetX.mk (some n2) ?_ ?_ rfl
          · (repeat (first | (with_reducible exact Up.refl _) | (with_reducible assumption) | (with_reducible refine Up.alloc ?_ _) | (with_reducible refine Up.drew ?_) | ((with_reducible refine Up.set ?_ ?_ _); rotate_left; focus (first | omega | (simp; done) | (simp; omega))) | (with_reducible refine Up.drewN ?_ _) | (with_reducible refine Up.call ?_ (by with_reducible assumption))))
          · rw [Hrr.out, H.out, Hdr.out, fbF_some hx2]
      · obtain rfl : k = s.next.length := by omega
        have Hfin := hid (show ycheckF s = firstBad s.push by rw [Hrr.out, H.out, List.drop_length]; rfl)
        have HU := hid hU
        clear gr H hU
        go_wp2
        go_loopw [49] (fun i wr2 => ∃ k : Nat, k ≤ s.push.length ∧ i = .int .i64 k ∧ Hid (firstBad s.push = firstBad (s.push.drop k)) ∧ Up w wr2) (fun i _ => s.push.length - (intOf i).toNat)
        case atStart => exact ⟨0, by omega, rfl, rfl, HU.out⟩
        case round =>
          obtain ⟨k, hk, rfl, H, hU⟩ := hrel
          have gr := (bcell hU).1
          have hle := hU.le
          by_cases hlt : k < s.push.length
          · obtain ⟨b1, o1, rfl, lb, cc⟩ := (Hp.out).at (by omega)
            obtain ⟨q1, q2⟩ := cc k hlt
            have j1 := (gr _ _ lb).trans q1
            have j2 := (gr _ _ lb).trans q2
            have lbr : b1 < wr.heap.size := by omega
            have Hdr := hid (sdrop s.push k hlt)
            have Hlt := hid hlt
            have hdk : decide ((k : Int) < (s.push.length : Int)) = true := by simp; omega
            have hk0 : (0 : Int) ≤ (k : Int) := by omega
            have hk9 : (k : Int) < 3 := by have := H3.out; have := HL.out; omega
            generalize s.push[k]?.getD ⟨0, 0⟩ = p at *
            clear cc q1 q2 gr hlt
            go_wp2_with (first
                        | (go_at_call 106; refine (check_any _ _ _).mono ?_; rintro e w2 ⟨(_|n2), hx2, rfl, hb2⟩))
            · go_roundw
              case rel =>
                refine ⟨k + 1, by have := Hlt.out; omega, by go_num, ?_, ?_⟩
                · show _ = _
                  rw [H.out, Hdr.out, fbS_none hx2]
                · (repeat (first | (with_reducible exact Up.refl _) | (with_reducible assumption) | (with_reducible refine Up.alloc ?_ _) | (with_reducible refine Up.drew ?_) | ((with_reducible refine Up.set ?_ ?_ _); rotate_left; focus (first | omega | (simp; done) | (simp; omega))) | (with_reducible refine Up.drewN ?_ _) | (with_reducible refine Up.call ?_ (by with_reducible assumption))))
              case measure => have := Hlt.out; simp [intOf]; omega
            · go_ret
              refine RetX.mk (some n2) ?_ ?_ rfl
              · (repeat (first | (with_reducible exact Up.refl _) | (with_reducible assumption) | (with_reducible refine Up.alloc ?_ _) | (with_reducible refine Up.drew ?_) | ((with_reducible refine Up.set ?_ ?_ _); rotate_left; focus (first | omega | (simp; done) | (simp; omega))) | (with_reducible refine Up.drewN ?_ _) | (with_reducible refine Up.call ?_ (by with_reducible assumption))))
              · rw [Hfin.out, H.out, Hdr.out, fbS_some hx2]
          · obtain rfl : k = s.push.length := by omega
            go_wp2
            go_ret
            refine RetX.mk none hU ?_ rfl
            rw [Hfin.out, H.out, List.drop_length]; rfl
  · have hrr : ycheckF s = some 3 := by unfold ycheckF; rw [if_neg h0, if_neg h3, if_pos hl]
    rw [hrr]
    have hdl : ((s.push.length : Int) != (s.next.length : Int)) = true := by simp; omega
    clear hrr h0 h3 hl
    go_enter Tryz.func103, Tryz.ntmps103
    go_wp2
    go_ret
    exact RetX.mk (some 3) (by (repeat (first | (with_reducible exact Up.refl _) | (with_reducible assumption) | (with_reducible refine Up.alloc ?_ _) | (with_reducible refine Up.drew ?_) | ((with_reducible refine Up.set ?_ ?_ _); rotate_left; focus (first | omega | (simp; done) | (simp; omega))) | (with_reducible refine Up.drewN ?_ _) | (with_reducible refine Up.call ?_ (by with_reducible assumption))))) rfl rfl
theorem ready_any (A B C : Option Addr) (s : Sy) (b : List Sp) (c d e : Nat) (w : World) (hY : RY w A B s) (hb : RdS w C b) :
    Calls Tryz.prog 68 #[.agg #[.slice A s.next.length c, .slice B s.push.length d], .slice C b.length e] w (RetX errV (readyF s b) w) := by
  have HY := hid hY; have Hb := hid hb; clear hY hb
  by_cases hl : b.length = s.next.length
  · have hdl : ((b.length : Int) != (s.next.length : Int)) = false := by simp; omega
    have Hl := hid hl; clear hl
    go_enter Tryz.func68, Tryz.ntmps68
    go_wp2_with (first
                        | ((go_at_call 103; (with_reducible refine (ycheck_any _ _ s _ _ _ (HY.out.up (by (repeat (first | (with_reducible exact Up.refl _) | (with_reducible assumption) | (with_reducible refine Up.alloc ?_ _) | (with_reducible refine Up.drew ?_) | ((with_reducible refine Up.set ?_ ?_ _); rotate_left; focus (first | omega | (simp; done) | (simp; omega))) | (with_reducible refine Up.drewN ?_ _) | (with_reducible refine Up.call ?_ (by with_reducible assumption))))))).mono ?_); rintro e w1 ⟨(_|n1), hx1, rfl, hb1⟩) <;> (have hle := Up.le hb1; (try simp only [World.size_alloc, World.size_setCell, World.size_drew, World.heap_drewN] at hle); (try (have _ : w.heap.size < w1.heap.size := (by omega); (try (apply fk hb1 (w.heap.size); (focus (go_simp; rfl)); (focus (intro o; go_simp)); intro z; (try clear f_0); have f_0 := z; clear z)); (try (apply ck hb1 (w.heap.size) 0; (focus (go_simp; rfl)); intro z; (try clear c_0_0); have c_0_0 := z; clear z; (try (apply ck hb1 (w.heap.size) 1; (focus (go_simp; rfl)); intro z; (try clear c_0_1); have c_0_1 := z; clear z)))); (try (have _ : w.heap.size + 1 < w1.heap.size := (by omega); (try (apply fk hb1 (w.heap.size + 1); (focus (go_simp; rfl)); (focus (intro o; go_simp)); intro z; (try clear f_1); have f_1 := z; clear z)); (try (apply ck hb1 (w.heap.size + 1) 0; (focus (go_simp; rfl)); intro z; (try clear c_1_0); have c_1_0 := z; clear z; (try (apply ck hb1 (w.heap.size + 1) 1; (focus (go_simp; rfl)); intro z; (try clear c_1_1); have c_1_1 := z; clear z)))))))); clear hle; (try (apply old_keep (w0 := w) (w := w1); (focus ((repeat (first | (with_reducible exact Up.refl _) | (with_reducible assumption) | (with_reducible refine Up.alloc ?_ _) | (with_reducible refine Up.drew ?_) | ((with_reducible refine Up.set ?_ ?_ _); rotate_left; focus (first | omega | (simp; done) | (simp; omega))) | (with_reducible refine Up.drewN ?_ _) | (with_reducible refine Up.call ?_ (by with_reducible assumption)))))); intro y z; (try clear hUp); (try clear hOld); have hUp := y; have hOld := z; clear y z))))
                        | ((go_at_call 72; (with_reducible refine (bcheck_any _ _ _ _ (Hb.out.up (by (repeat (first | (with_reducible exact Up.refl _) | (with_reducible assumption) | (with_reducible refine Up.alloc ?_ _) | (with_reducible refine Up.drew ?_) | ((with_reducible refine Up.set ?_ ?_ _); rotate_left; focus (first | omega | (simp; done) | (simp; omega))) | (with_reducible refine Up.drewN ?_ _) | (with_reducible refine Up.call ?_ (by with_reducible assumption))))))).mono ?_); rintro e w2 ⟨(_|n2), hx2, rfl, hb2⟩) <;> (have hle := Up.le hb2; (try simp only [World.size_alloc, World.size_setCell, World.size_drew, World.heap_drewN] at hle); (try (have _ : w.heap.size < w2.heap.size := (by omega); (try (apply fk hb2 (w.heap.size); (focus (go_simp; rfl)); (focus (intro o; go_simp)); intro z; (try clear f_0); have f_0 := z; clear z)); (try (apply ck hb2 (w.heap.size) 0; (focus (go_simp; rfl)); intro z; (try clear c_0_0); have c_0_0 := z; clear z; (try (apply ck hb2 (w.heap.size) 1; (focus (go_simp; rfl)); intro z; (try clear c_0_1); have c_0_1 := z; clear z)))); (try (have _ : w.heap.size + 1 < w2.heap.size := (by omega); (try (apply fk hb2 (w.heap.size + 1); (focus (go_simp; rfl)); (focus (intro o; go_simp)); intro z; (try clear f_1); have f_1 := z; clear z)); (try (apply ck hb2 (w.heap.size + 1) 0; (focus (go_simp; rfl)); intro z; (try clear c_1_0); have c_1_0 := z; clear z; (try (apply ck hb2 (w.heap.size + 1) 1; (focus (go_simp; rfl)); intro z; (try clear c_1_1); have c_1_1 := z; clear z)))))))); (try (have _ : w1.heap.size < w2.heap.size := (by omega); (try (apply fk hb2 (w1.heap.size); (focus (go_simp; rfl)); (focus (intro o; go_simp)); intro z; (try clear f1_0); have f1_0 := z; clear z)); (try (apply ck hb2 (w1.heap.size) 0; (focus (go_simp; rfl)); intro z; (try clear c1_0_0); have c1_0_0 := z; clear z; (try (apply ck hb2 (w1.heap.size) 1; (focus (go_simp; rfl)); intro z; (try clear c1_0_1); have c1_0_1 := z; clear z)))); (try (have _ : w1.heap.size + 1 < w2.heap.size := (by omega); (try (apply fk hb2 (w1.heap.size + 1); (focus (go_simp; rfl)); (focus (intro o; go_simp)); intro z; (try clear f1_1); have f1_1 := z; clear z)); (try (apply ck hb2 (w1.heap.size + 1) 0; (focus (go_simp; rfl)); intro z; (try clear c1_1_0); have c1_1_0 := z; clear z; (try (apply ck hb2 (w1.heap.size + 1) 1; (focus (go_simp; rfl)); intro z; (try clear c1_1_1); have c1_1_1 := z; clear z)))))))); clear hle; (try (apply old_keep (w0 := w) (w := w2); (focus ((repeat (first | (with_reducible exact Up.refl _) | (with_reducible assumption) | (with_reducible refine Up.alloc ?_ _) | (with_reducible refine Up.drew ?_) | ((with_reducible refine Up.set ?_ ?_ _); rotate_left; focus (first | omega | (simp; done) | (simp; omega))) | (with_reducible refine Up.drewN ?_ _) | (with_reducible refine Up.call ?_ (by with_reducible assumption)))))); intro y z; (try clear hUp); (try clear hOld); have hUp := y; have hOld := z; clear y z)))))
    all_goals
      go_ret
      first
        | (refine RetX.mk (some n1) ?_ ?_ rfl; rotate_left; (focus (simp only [readyF, hx1])))
        | (refine RetX.mk (some n2) ?_ ?_ rfl; rotate_left; (focus (simp only [readyF, hx1, hx2])))
        | (refine RetX.mk none ?_ ?_ rfl; rotate_left; (focus (simp only [readyF, hx1, hx2]; rw [if_pos Hl.out])))
      (repeat (first | (with_reducible exact Up.refl _) | (with_reducible assumption) | (with_reducible refine Up.alloc ?_ _) | (with_reducible refine Up.drew ?_) | ((with_reducible refine Up.set ?_ ?_ _); rotate_left; focus (first | omega | (simp; done) | (simp; omega))) | (with_reducible refine Up.drewN ?_ _) | (with_reducible refine Up.call ?_ (by with_reducible assumption))))
  · have hdl : ((b.length : Int) != (s.next.length : Int)) = true := by simp; omega
    have Hl := hid hl; clear hl
    go_enter Tryz.func68, Tryz.ntmps68
    go_wp2_with (first
                        | ((go_at_call 103; (with_reducible refine (ycheck_any _ _ s _ _ _ (HY.out.up (by (repeat (first | (with_reducible exact Up.refl _) | (with_reducible assumption) | (with_reducible refine Up.alloc ?_ _) | (with_reducible refine Up.drew ?_) | ((with_reducible refine Up.set ?_ ?_ _); rotate_left; focus (first | omega | (simp; done) | (simp; omega))) | (with_reducible refine Up.drewN ?_ _) | (with_reducible refine Up.call ?_ (by with_reducible assumption))))))).mono ?_); rintro e w1 ⟨(_|n1), hx1, rfl, hb1⟩) <;> (have hle := Up.le hb1; (try simp only [World.size_alloc, World.size_setCell, World.size_drew, World.heap_drewN] at hle); (try (have _ : w.heap.size < w1.heap.size := (by omega); (try (apply fk hb1 (w.heap.size); (focus (go_simp; rfl)); (focus (intro o; go_simp)); intro z; (try clear f_0); have f_0 := z; clear z)); (try (apply ck hb1 (w.heap.size) 0; (focus (go_simp; rfl)); intro z; (try clear c_0_0); have c_0_0 := z; clear z; (try (apply ck hb1 (w.heap.size) 1; (focus (go_simp; rfl)); intro z; (try clear c_0_1); have c_0_1 := z; clear z)))); (try (have _ : w.heap.size + 1 < w1.heap.size := (by omega); (try (apply fk hb1 (w.heap.size + 1); (focus (go_simp; rfl)); (focus (intro o; go_simp)); intro z; (try clear f_1); have f_1 := z; clear z)); (try (apply ck hb1 (w.heap.size + 1) 0; (focus (go_simp; rfl)); intro z; (try clear c_1_0); have c_1_0 := z; clear z; (try (apply ck hb1 (w.heap.size + 1) 1; (focus (go_simp; rfl)); intro z; (try clear c_1_1); have c_1_1 := z; clear z)))))))); clear hle; (try (apply old_keep (w0 := w) (w := w1); (focus ((repeat (first | (with_reducible exact Up.refl _) | (with_reducible assumption) | (with_reducible refine Up.alloc ?_ _) | (with_reducible refine Up.drew ?_) | ((with_reducible refine Up.set ?_ ?_ _); rotate_left; focus (first | omega | (simp; done) | (simp; omega))) | (with_reducible refine Up.drewN ?_ _) | (with_reducible refine Up.call ?_ (by with_reducible assumption)))))); intro y z; (try clear hUp); (try clear hOld); have hUp := y; have hOld := z; clear y z))))
                        | ((go_at_call 72; (with_reducible refine (bcheck_any _ _ _ _ (Hb.out.up (by (repeat (first | (with_reducible exact Up.refl _) | (with_reducible assumption) | (with_reducible refine Up.alloc ?_ _) | (with_reducible refine Up.drew ?_) | ((with_reducible refine Up.set ?_ ?_ _); rotate_left; focus (first | omega | (simp; done) | (simp; omega))) | (with_reducible refine Up.drewN ?_ _) | (with_reducible refine Up.call ?_ (by with_reducible assumption))))))).mono ?_); rintro e w2 ⟨(_|n2), hx2, rfl, hb2⟩) <;> (have hle := Up.le hb2; (try simp only [World.size_alloc, World.size_setCell, World.size_drew, World.heap_drewN] at hle); (try (have _ : w.heap.size < w2.heap.size := (by omega); (try (apply fk hb2 (w.heap.size); (focus (go_simp; rfl)); (focus (intro o; go_simp)); intro z; (try clear f_0); have f_0 := z; clear z)); (try (apply ck hb2 (w.heap.size) 0; (focus (go_simp; rfl)); intro z; (try clear c_0_0); have c_0_0 := z; clear z; (try (apply ck hb2 (w.heap.size) 1; (focus (go_simp; rfl)); intro z; (try clear c_0_1); have c_0_1 := z; clear z)))); (try (have _ : w.heap.size + 1 < w2.heap.size := (by omega); (try (apply fk hb2 (w.heap.size + 1); (focus (go_simp; rfl)); (focus (intro o; go_simp)); intro z; (try clear f_1); have f_1 := z; clear z)); (try (apply ck hb2 (w.heap.size + 1) 0; (focus (go_simp; rfl)); intro z; (try clear c_1_0); have c_1_0 := z; clear z; (try (apply ck hb2 (w.heap.size + 1) 1; (focus (go_simp; rfl)); intro z; (try clear c_1_1); have c_1_1 := z; clear z)))))))); (try (have _ : w1.heap.size < w2.heap.size := (by omega); (try (apply fk hb2 (w1.heap.size); (focus (go_simp; rfl)); (focus (intro o; go_simp)); intro z; (try clear f1_0); have f1_0 := z; clear z)); (try (apply ck hb2 (w1.heap.size) 0; (focus (go_simp; rfl)); intro z; (try clear c1_0_0); have c1_0_0 := z; clear z; (try (apply ck hb2 (w1.heap.size) 1; (focus (go_simp; rfl)); intro z; (try clear c1_0_1); have c1_0_1 := z; clear z)))); (try (have _ : w1.heap.size + 1 < w2.heap.size := (by omega); (try (apply fk hb2 (w1.heap.size + 1); (focus (go_simp; rfl)); (focus (intro o; go_simp)); intro z; (try clear f1_1); have f1_1 := z; clear z)); (try (apply ck hb2 (w1.heap.size + 1) 0; (focus (go_simp; rfl)); intro z; (try clear c1_1_0); have c1_1_0 := z; clear z; (try (apply ck hb2 (w1.heap.size + 1) 1; (focus (go_simp; rfl)); intro z; (try clear c1_1_1); have c1_1_1 := z; clear z)))))))); clear hle; (try (apply old_keep (w0 := w) (w := w2); (focus ((repeat (first | (with_reducible exact Up.refl _) | (with_reducible assumption) | (with_reducible refine Up.alloc ?_ _) | (with_reducible refine Up.drew ?_) | ((with_reducible refine Up.set ?_ ?_ _); rotate_left; focus (first | omega | (simp; done) | (simp; omega))) | (with_reducible refine Up.drewN ?_ _) | (with_reducible refine Up.call ?_ (by with_reducible assumption)))))); intro y z; (try clear hUp); (try clear hOld); have hUp := y; have hOld := z; clear y z)))))
    all_goals
      go_ret
      first
        | (refine RetX.mk (some n1) ?_ ?_ rfl; rotate_left; (focus (simp only [readyF, hx1])))
        | (refine RetX.mk (some n2) ?_ ?_ rfl; rotate_left; (focus (simp only [readyF, hx1, hx2])))
        | (refine RetX.mk (some 3) ?_ ?_ rfl; rotate_left; (focus (simp only [readyF, hx1, hx2]; rw [if_neg Hl.out])))
      (repeat (first | (with_reducible exact Up.refl _) | (with_reducible assumption) | (with_reducible refine Up.alloc ?_ _) | (with_reducible refine Up.drew ?_) | ((with_reducible refine Up.set ?_ ?_ _); rotate_left; focus (first | omega | (simp; done) | (simp; omega))) | (with_reducible refine Up.drewN ?_ _) | (with_reducible refine Up.call ?_ (by with_reducible assumption))))
theorem nextG_bad1 {b L : List Sp} {f : List Tm} {fs : List (List Tm)} {q : Sp} {qs : List Sp} {e : Nat} (h : foverF f b = .error e) : preS L (nextG b (f :: fs) (q :: qs)) = .error e := by
  unfold nextG; rw [h]; rfl
theorem nextG_bad2 {b L : List Sp} {f : List Tm} {fs : List (List Tm)} {q x : Sp} {qs : List Sp} {e : Nat} (h : foverF f b = .ok x) (h2 : sumF x q = .error e) : preS L (nextG b (f :: fs) (q :: qs)) = .error e := by
  unfold nextG; rw [h]; dsimp only; rw [h2]; rfl
theorem nextG_good {b L : List Sp} {f : List Tm} {fs : List (List Tm)} {q x y : Sp} {qs : List Sp} (h : foverF f b = .ok x) (h2 : sumF x q = .ok y) : preS L (nextG b (f :: fs) (q :: qs)) = preS (L ++ [y]) (nextG b fs qs) := by
  conv => lhs; unfold nextG
  rw [h]; dsimp only; rw [h2]; dsimp only
  cases nextG b fs qs <;> simp [preS]
theorem firstBadF_at {k : Int} : ∀ {l : List (List Tm)}, firstBadF k l = none → ∀ f ∈ l, fcheckF f k = none
  | [], _, f, h => by cases h
  | g :: l, h, f, hf => by
    unfold firstBadF at h
    split at h
    · cases h
    · rcases List.mem_cons.1 hf with e | e
      · rw [e]; assumption
      · exact firstBadF_at h f e
theorem foverG_M {b : List Sp} : ∀ (f : List Tm) (s r : Sp), M s.lo ∧ M s.hi → foverG b s f = .ok r → M r.lo ∧ M r.hi
  | [], s, r, hs, h => by
    unfold foverG at h
    injection h with h
    rw [← h]; exact hs
  | t :: f, s, r, hs, h => by
    unfold foverG at h
    cases e1 : oneF t b with
    | error e => rw [e1] at h; cases h
    | ok q =>
      rw [e1] at h
      dsimp only at h
      cases e2 : sumF s q with
      | error e => rw [e2] at h; cases h
      | ok u =>
        rw [e2] at h
        dsimp only at h
        exact foverG_M f u r (sum_M e2) h
theorem fover_M {f : List Tm} {b : List Sp} {x : Sp} (h : foverF f b = .ok x) : M x.lo ∧ M x.hi := foverG_M f _ x ⟨by decide, by decide⟩ h
end Go.Proofs.YtmjcnpolnknkkaaGreatDoor
