/- The walks of the reference's boxes that only read: Box, Boxes, Within, Has, Widest. -/
import Derived.Test.YteoomjenekkomaaDoorRfs
import Derived.Test.YteoomjenekkomaaDoorClone
set_option linter.unusedVariables false
set_option linter.unusedSimpArgs false
namespace Go.Proofs.YteoomjenekkomaaDoor
open Go.RowKit

theorem firstBad_num {l : List Sp} {e : Nat} (h : firstBad l = some e) : e = 1 ∨ e = 3 := by
  induction l with
  | nil => cases h
  | cons s l ih =>
    unfold firstBad at h
    split at h
    · rename_i k hk; injection h with h; subst h; exact check_num hk
    · exact ih h
theorem bcheck_num {l : List Sp} {e : Nat} (h : bcheckF l = some e) : e = 5 ∨ e = 4 ∨ e = 1 ∨ e = 3 := by
  unfold bcheckF at h
  split at h
  · injection h with h; omega
  · split at h
    · injection h with h; omega
    · have := firstBad_num h; omega
theorem btwo_num {a b : List Sp} {e : Nat} (h : btwoF a b = some e) : e = 5 ∨ e = 4 ∨ e = 1 ∨ e = 3 := by
  unfold btwoF at h
  split at h
  · rename_i k hk; injection h with h; subst h; exact bcheck_num hk
  · split at h
    · rename_i k hk; injection h with h; subst h; exact bcheck_num hk
    · split at h
      · cases h
      · injection h with h; omega
theorem nz13 {e : Nat} (h : e = 1 ∨ e = 3) : ((e : Int) == 0) = false := by rcases h with rfl | rfl <;> rfl
theorem nn13 {e : Nat} (h : e = 1 ∨ e = 3) : ((e : Int) != 0) = true := by rcases h with rfl | rfl <;> rfl
theorem nzb {e : Nat} (h : e = 5 ∨ e = 4 ∨ e = 1 ∨ e = 3) : ((e : Int) == 0) = false := by rcases h with rfl | rfl | rfl | rfl <;> rfl
theorem nnb {e : Nat} (h : e = 5 ∨ e = 4 ∨ e = 1 ∨ e = 3) : ((e : Int) != 0) = true := by rcases h with rfl | rfl | rfl | rfl <;> rfl
set_option maxHeartbeats 1000000 in
theorem rbox_any (A : Option Addr) (l : List Sp) (c : Nat) (w : World) (hr : RdS w A l) :
    Calls Tryd.prog 14 #[.slice A l.length c] w (RetX numV (bcheckF l) w) := by
  by_cases h0 : l.length = 0
  · have hrr : bcheckF l = some 5 := by simp [bcheckF, h0]
    rw [hrr, h0]
    clear hrr h0 hr
    go_enter Tryd.func14, Tryd.ntmps14
    go_wp2
    go_ret
    exact RetX.mk (some 5) (Up.refl _) rfl rfl
  · by_cases h3 : 3 < l.length
    · have hrr : bcheckF l = some 4 := by simp [bcheckF, h0, h3]
      rw [hrr]
      clear hrr hr
      have hd : ((l.length : Int) == 0) = false := beq_eq_false_iff_ne.2 (by omega)
      have hd3 : decide ((3 : Int) < l.length) = true := by simp; omega
      go_enter Tryd.func14, Tryd.ntmps14
      go_wp2
      go_ret
      exact RetX.mk (some 4) (Up.refl _) rfl rfl
    · have hrr : bcheckF l = firstBad l := by simp [bcheckF, h0, h3]
      rw [hrr]
      have hd : ((l.length : Int) == 0) = false := beq_eq_false_iff_ne.2 (by omega)
      have hd3 : decide ((3 : Int) < l.length) = false := by simp; omega
      obtain ⟨bb, o, rfl, hb, hc⟩ := hr.at (by omega)
      have Hc := hid hc
      have h3' : l.length ≤ 3 := by omega
      clear hrr h0 h3 hc hr
      go_enter Tryd.func14, Tryd.ntmps14
      go_wp2
      go_loopw [3] (fun i wr => ∃ k : Nat, k ≤ l.length ∧ i = .int .i64 k ∧ Hid (firstBad l = firstBad (l.drop k)) ∧ Up w wr) (fun i _ => l.length - (intOf i).toNat)
      case atStart => exact ⟨0, by omega, rfl, rfl, Up.refl _⟩
      case round =>
        obtain ⟨k, hk, rfl, H, hU⟩ := hrel
        have gr := (bcell hU).1
        have hl := hU.le
        by_cases hlt : k < l.length
        · obtain ⟨hk1, hk2⟩ := Hc.out k hlt
          have Hdr := hid (sdrop l k hlt)
          generalize l[k]?.getD ⟨0, 0⟩ = s at *
          have hdk : decide ((k : Int) < (l.length : Int)) = true := by simp; omega
          have hkl : (k : Int) < (l.length : Int) := by omega
          go_wp2_with ((go_at_call 65; (with_reducible refine (rspan_any _ _ _).mono ?_); rintro e w1 ⟨(_|n1), hx1, rfl, hb1⟩ <;> ((try have q1 := nn13 (check_num hx1)))) <;> (have hle := Up.le hb1; (try simp only [World.size_alloc, World.size_setCell, World.size_drew, World.heap_drewN] at hle); (try (have _ : w.heap.size < w1.heap.size := (by omega); (try (apply fk hb1 (w.heap.size); (focus (go_simp; rfl)); (focus (intro o; go_simp)); intro z; (try clear f_0); have f_0 := z; clear z)); (try (apply ck hb1 (w.heap.size) 0; (focus (go_simp; rfl)); intro z; (try clear c_0_0); have c_0_0 := z; clear z; (try (apply ck hb1 (w.heap.size) 1; (focus (go_simp; rfl)); intro z; (try clear c_0_1); have c_0_1 := z; clear z)))); (try (have _ : w.heap.size + 1 < w1.heap.size := (by omega); (try (apply fk hb1 (w.heap.size + 1); (focus (go_simp; rfl)); (focus (intro o; go_simp)); intro z; (try clear f_1); have f_1 := z; clear z)); (try (apply ck hb1 (w.heap.size + 1) 0; (focus (go_simp; rfl)); intro z; (try clear c_1_0); have c_1_0 := z; clear z; (try (apply ck hb1 (w.heap.size + 1) 1; (focus (go_simp; rfl)); intro z; (try clear c_1_1); have c_1_1 := z; clear z)))); (try (have _ : w.heap.size + 1 + 1 < w1.heap.size := (by omega); (try (apply fk hb1 (w.heap.size + 1 + 1); (focus (go_simp; rfl)); (focus (intro o; go_simp)); intro z; (try clear f_2); have f_2 := z; clear z)); (try (apply ck hb1 (w.heap.size + 1 + 1) 0; (focus (go_simp; rfl)); intro z; (try clear c_2_0); have c_2_0 := z; clear z; (try (apply ck hb1 (w.heap.size + 1 + 1) 1; (focus (go_simp; rfl)); intro z; (try clear c_2_1); have c_2_1 := z; clear z)))); (try (have _ : w.heap.size + 1 + 1 + 1 < w1.heap.size := (by omega); (try (apply fk hb1 (w.heap.size + 1 + 1 + 1); (focus (go_simp; rfl)); (focus (intro o; go_simp)); intro z; (try clear f_3); have f_3 := z; clear z)); (try (apply ck hb1 (w.heap.size + 1 + 1 + 1) 0; (focus (go_simp; rfl)); intro z; (try clear c_3_0); have c_3_0 := z; clear z; (try (apply ck hb1 (w.heap.size + 1 + 1 + 1) 1; (focus (go_simp; rfl)); intro z; (try clear c_3_1); have c_3_1 := z; clear z)))); (try (have _ : w.heap.size + 1 + 1 + 1 + 1 < w1.heap.size := (by omega); (try (apply fk hb1 (w.heap.size + 1 + 1 + 1 + 1); (focus (go_simp; rfl)); (focus (intro o; go_simp)); intro z; (try clear f_4); have f_4 := z; clear z)); (try (apply ck hb1 (w.heap.size + 1 + 1 + 1 + 1) 0; (focus (go_simp; rfl)); intro z; (try clear c_4_0); have c_4_0 := z; clear z; (try (apply ck hb1 (w.heap.size + 1 + 1 + 1 + 1) 1; (focus (go_simp; rfl)); intro z; (try clear c_4_1); have c_4_1 := z; clear z)))))))))))))); (try (have _ : wr.heap.size < w1.heap.size := (by omega); (try (apply fk hb1 (wr.heap.size); (focus (go_simp; rfl)); (focus (intro o; go_simp)); intro z; (try clear fr_0); have fr_0 := z; clear z)); (try (apply ck hb1 (wr.heap.size) 0; (focus (go_simp; rfl)); intro z; (try clear cr_0_0); have cr_0_0 := z; clear z; (try (apply ck hb1 (wr.heap.size) 1; (focus (go_simp; rfl)); intro z; (try clear cr_0_1); have cr_0_1 := z; clear z)))); (try (have _ : wr.heap.size + 1 < w1.heap.size := (by omega); (try (apply fk hb1 (wr.heap.size + 1); (focus (go_simp; rfl)); (focus (intro o; go_simp)); intro z; (try clear fr_1); have fr_1 := z; clear z)); (try (apply ck hb1 (wr.heap.size + 1) 0; (focus (go_simp; rfl)); intro z; (try clear cr_1_0); have cr_1_0 := z; clear z; (try (apply ck hb1 (wr.heap.size + 1) 1; (focus (go_simp; rfl)); intro z; (try clear cr_1_1); have cr_1_1 := z; clear z)))); (try (have _ : wr.heap.size + 1 + 1 < w1.heap.size := (by omega); (try (apply fk hb1 (wr.heap.size + 1 + 1); (focus (go_simp; rfl)); (focus (intro o; go_simp)); intro z; (try clear fr_2); have fr_2 := z; clear z)); (try (apply ck hb1 (wr.heap.size + 1 + 1) 0; (focus (go_simp; rfl)); intro z; (try clear cr_2_0); have cr_2_0 := z; clear z; (try (apply ck hb1 (wr.heap.size + 1 + 1) 1; (focus (go_simp; rfl)); intro z; (try clear cr_2_1); have cr_2_1 := z; clear z)))); (try (have _ : wr.heap.size + 1 + 1 + 1 < w1.heap.size := (by omega); (try (apply fk hb1 (wr.heap.size + 1 + 1 + 1); (focus (go_simp; rfl)); (focus (intro o; go_simp)); intro z; (try clear fr_3); have fr_3 := z; clear z)); (try (apply ck hb1 (wr.heap.size + 1 + 1 + 1) 0; (focus (go_simp; rfl)); intro z; (try clear cr_3_0); have cr_3_0 := z; clear z; (try (apply ck hb1 (wr.heap.size + 1 + 1 + 1) 1; (focus (go_simp; rfl)); intro z; (try clear cr_3_1); have cr_3_1 := z; clear z)))); (try (have _ : wr.heap.size + 1 + 1 + 1 + 1 < w1.heap.size := (by omega); (try (apply fk hb1 (wr.heap.size + 1 + 1 + 1 + 1); (focus (go_simp; rfl)); (focus (intro o; go_simp)); intro z; (try clear fr_4); have fr_4 := z; clear z)); (try (apply ck hb1 (wr.heap.size + 1 + 1 + 1 + 1) 0; (focus (go_simp; rfl)); intro z; (try clear cr_4_0); have cr_4_0 := z; clear z; (try (apply ck hb1 (wr.heap.size + 1 + 1 + 1 + 1) 1; (focus (go_simp; rfl)); intro z; (try clear cr_4_1); have cr_4_1 := z; clear z)))))))))))))); clear hle; (try (apply old_keep (w0 := w) (w := w1); (focus ((repeat (first | (with_reducible exact Up.refl _) | (with_reducible assumption) | (with_reducible refine Up.alloc ?_ _) | (with_reducible refine Up.drew ?_) | ((with_reducible refine Up.set ?_ ?_ _); rotate_left; focus (first | omega | (simp; done) | (simp; omega))) | (with_reducible refine Up.drewN ?_ _) | (with_reducible refine Up.call ?_ (by with_reducible assumption)))))); intro y z; (try clear hUp); (try clear hOld); have hUp := y; have hOld := z; clear y z))))
          · go_roundw
            case rel =>
              refine ⟨k + 1, by omega, by go_num, ?_, ?_⟩
              · show _ = _
                rw [H.out, Hdr.out]; exact firstBad_none hx1
              · (repeat (first | (with_reducible exact Up.refl _) | (with_reducible assumption) | (with_reducible refine Up.alloc ?_ _) | (with_reducible refine Up.drew ?_) | ((with_reducible refine Up.set ?_ ?_ _); rotate_left; focus (first | omega | (simp; done) | (simp; omega))) | (with_reducible refine Up.drewN ?_ _) | (with_reducible refine Up.call ?_ (by with_reducible assumption))))
            case measure => simp [intOf]; omega
          · go_ret
            refine RetX.mk (some n1) ?_ ?_ rfl
            · (repeat (first | (with_reducible exact Up.refl _) | (with_reducible assumption) | (with_reducible refine Up.alloc ?_ _) | (with_reducible refine Up.drew ?_) | ((with_reducible refine Up.set ?_ ?_ _); rotate_left; focus (first | omega | (simp; done) | (simp; omega))) | (with_reducible refine Up.drewN ?_ _) | (with_reducible refine Up.call ?_ (by with_reducible assumption))))
            · rw [H.out, Hdr.out]; exact firstBad_some hx1
        · obtain rfl : k = l.length := by omega
          go_wp2
          go_ret
          refine RetX.mk none hU ?_ rfl
          rw [H.out, List.drop_length]; rfl

set_option maxHeartbeats 1000000 in
theorem rwithin_any (A B : Option Addr) (a b : List Sp) (c d : Nat) (w : World) (ha : RdS w A a) (hb : RdS w B b) (hl : a.length = b.length) (hm : a.length ≤ 9223372036854775807) :
    Calls Tryd.prog 30 #[.slice A a.length c, .slice B b.length d] w (RetX boolV (inF a b) w) := by
  have Ha := hid ha; have Hb := hid hb; have Hm := hid hm; clear ha hb hm
  have hl1 : a.length ≤ b.length := by omega
  have hl2 : b.length ≤ a.length := by omega
  clear hl
  go_enter Tryd.func30, Tryd.ntmps30
  go_wp2
  go_loopw [5] (fun i wr => ∃ k : Nat, k ≤ a.length ∧ i = .int .i64 k ∧ Hid (inF a b = inF (a.drop k) (b.drop k)) ∧ Up w wr) (fun i _ => a.length - (intOf i).toNat)
  case atStart =>
    refine ⟨0, by omega, rfl, rfl, ?_⟩
    (repeat (first | (with_reducible exact Up.refl _) | (with_reducible assumption) | (with_reducible refine Up.alloc ?_ _) | (with_reducible refine Up.drew ?_) | ((with_reducible refine Up.set ?_ ?_ _); rotate_left; focus (first | omega | (simp; done) | (simp; omega))) | (with_reducible refine Up.drewN ?_ _) | (with_reducible refine Up.call ?_ (by with_reducible assumption))))
  case round =>
    obtain ⟨k, hk, rfl, H, hU⟩ := hrel
    have gr := (bcell hU).1
    by_cases hlt : k < a.length
    · obtain ⟨b1, o1, rfl, l1, c1⟩ := (Ha.out).at (by omega)
      obtain ⟨b2, o2, rfl, l2, c2⟩ := (Hb.out).at (by omega)
      obtain ⟨k1, k2⟩ := c1 k hlt
      obtain ⟨k3, k4⟩ := c2 k (by omega)
      have Hda := hid (sdrop a k hlt)
      have Hdb := hid (sdrop b k (by omega))
      generalize a[k]?.getD ⟨0, 0⟩ = s at *
      generalize b[k]?.getD ⟨0, 0⟩ = t at *
      clear c1 c2
      have hle := hU.le
      have _ : b1 < wr.heap.size := by omega
      have _ : b2 < wr.heap.size := by omega
      have hdk : decide ((k : Int) < (a.length : Int)) = true := by simp; omega
      have hak : ((k : Int) < (a.length : Int)) := by omega
      have hkb : ((k : Int) < (b.length : Int)) := by omega
      have hka : (k : Int) + 1 ≤ 9223372036854775807 := by have := Hm.out; omega
      have hk0 : (0 : Int) ≤ (k : Int) := by omega
      by_cases h1 : s.lo < t.lo
      · have hd1 : decide (s.lo < t.lo) = true := by simpa using h1
        go_wp2_with fail
        go_quiet (fail)
        go_wp2
        go_ret
        refine RetX.mk false ?_ ?_ rfl
        · (repeat (first | (with_reducible exact Up.refl _) | (with_reducible assumption) | (with_reducible refine Up.alloc ?_ _) | (with_reducible refine Up.drew ?_) | ((with_reducible refine Up.set ?_ ?_ _); rotate_left; focus (first | omega | (simp; done) | (simp; omega))) | (with_reducible refine Up.drewN ?_ _) | (with_reducible refine Up.call ?_ (by with_reducible assumption))))
        · rw [H.out, Hda.out, Hdb.out]; exact inF_no (.inl h1)
      · have hd1 : decide (s.lo < t.lo) = false := by simpa using h1
        by_cases h2 : t.hi < s.hi
        · have hd2 : decide (t.hi < s.hi) = true := by simpa using h2
          go_wp2_with fail
          go_quiet (fail)
          go_wp2
          go_ret
          refine RetX.mk false ?_ ?_ rfl
          · (repeat (first | (with_reducible exact Up.refl _) | (with_reducible assumption) | (with_reducible refine Up.alloc ?_ _) | (with_reducible refine Up.drew ?_) | ((with_reducible refine Up.set ?_ ?_ _); rotate_left; focus (first | omega | (simp; done) | (simp; omega))) | (with_reducible refine Up.drewN ?_ _) | (with_reducible refine Up.call ?_ (by with_reducible assumption))))
          · rw [H.out, Hda.out, Hdb.out]; exact inF_no (.inr h2)
        · have hd2 : decide (t.hi < s.hi) = false := by simpa using h2
          go_wp2_with fail
          go_quiet (fail)
          go_wp2
          go_roundw
          case rel =>
            refine ⟨k + 1, by omega, by go_num, ?_, ?_⟩
            · show _ = _
              rw [H.out, Hda.out, Hdb.out]; exact inF_yes (by omega)
            · (repeat (first | (with_reducible exact Up.refl _) | (with_reducible assumption) | (with_reducible refine Up.alloc ?_ _) | (with_reducible refine Up.drew ?_) | ((with_reducible refine Up.set ?_ ?_ _); rotate_left; focus (first | omega | (simp; done) | (simp; omega))) | (with_reducible refine Up.drewN ?_ _) | (with_reducible refine Up.call ?_ (by with_reducible assumption))))
          case measure => simp [intOf]; omega
    · obtain rfl : k = a.length := by omega
      go_wp2
      go_ret
      refine RetX.mk true hU ?_ rfl
      rw [H.out, List.drop_length]
      rfl
theorem widestF_tail {l : List Sp} (h0 : 0 < l.length) : widestF l = widestG (l.drop 1) 1 0 (widthF (l[0]?.getD ⟨0, 0⟩)) := by
  cases l with
  | nil => simp at h0
  | cons s l =>
    show widestG (s :: l) 0 0 (widthF s) = widestG l 1 0 (widthF s)
    exact widestG_no (by omega)
set_option maxRecDepth 100000 in
set_option maxHeartbeats 1000000 in
theorem rwidest_any (A : Option Addr) (l : List Sp) (c : Nat) (w : World) (hr : RdS w A l) (h0 : 0 < l.length) (hm : l.length ≤ 1000) (hs : ∀ s ∈ l, Rt s) :
    Calls Tryd.prog 51 #[.slice A l.length c] w (RetX intV (widestF l : Int) w) := by
  obtain ⟨b, o, rfl, hb, hc⟩ := hr.at h0
  have Hc := hid hc
  have Hm := hid hm
  have Hs := hid (fun k (hk : k < l.length) => hs (l[k]?.getD ⟨0, 0⟩) (by rw [List.getElem?_eq_getElem hk]; exact List.getElem_mem hk))
  clear hc hr hm hs
  go_enter Tryd.func51, Tryd.ntmps51
  go_wp2
  go_loopw [3, 4] (fun av i wr => ∃ (k a : Nat), k ≤ l.length ∧ a < l.length ∧ i = .int .i64 k ∧ av = .int .i64 a ∧ Hid (widestF l = widestG (l.drop k) k a (widthF (l[a]?.getD ⟨0, 0⟩))) ∧ Up w wr) (fun _ i _ => l.length - (intOf i).toNat)
  case atStart => exact ⟨1, 0, by omega, h0, rfl, rfl, widestF_tail h0, Up.refl _⟩
  case round =>
    obtain ⟨k, a, hk, ha, rfl, rfl, H, hU⟩ := hrel
    have gr := (bcell hU).1
    have hle := hU.le
    have h32 := Hm.out
    by_cases hlt : k < l.length
    · obtain ⟨c1, c2⟩ := Hc.out k hlt
      obtain ⟨c3, c4⟩ := Hc.out a ha
      have Hdr := hid (sdrop l k hlt)
      obtain ⟨⟨r1, r2⟩, ⟨r3, r4⟩, r5⟩ := Hs.out k hlt
      obtain ⟨⟨t1, t2⟩, ⟨t3, t4⟩, t5⟩ := Hs.out a ha
      have j1 := (gr _ _ hb).trans c1
      have j2 := (gr _ _ hb).trans c2
      have j3 := (gr _ _ hb).trans c3
      have j4 := (gr _ _ hb).trans c4
      have hkm : (k : Int) < (l.length : Int) := by omega
      have ham : (a : Int) < (l.length : Int) := by omega
      have hk0 : (0 : Int) ≤ (k : Int) := by omega
      have ha0 : (0 : Int) ≤ (a : Int) := by omega
      have hdk : decide ((k : Int) < (l.length : Int)) = true := by simp; omega
      have lbr : b < wr.heap.size := by omega
      have Hlt := hid hlt
      have Ha := hid ha
      generalize hgs : l[k]?.getD ⟨0, 0⟩ = s at *
      generalize hgt : l[a]?.getD ⟨0, 0⟩ = t at *
      have Hgs := hid hgs; have Hgt := hid hgt
      clear c1 c2 c3 c4 gr hlt hgs hgt
      by_cases hw : t.hi - t.lo < s.hi - s.lo
      · have hd : decide (t.hi - t.lo < s.hi - s.lo) = true := by simpa using hw
        have Hw := hid (show widthF t < widthF s from hw)
        clear hw
        go_wp2_with fail
        go_quiet (fail)
        go_wp2
        go_roundw
        case rel =>
          refine ⟨k + 1, k, by have := Hlt.out; omega, Hlt.out, by go_num, by go_num, ?_, ?_⟩
          · show _ = _
            rw [H.out, Hdr.out, Hgs.out]
            exact widestG_yes Hw.out
          · (repeat (first | (with_reducible exact Up.refl _) | (with_reducible assumption) | (with_reducible refine Up.alloc ?_ _) | (with_reducible refine Up.drew ?_) | ((with_reducible refine Up.set ?_ ?_ _); rotate_left; focus (first | omega | (simp; done) | (simp; omega))) | (with_reducible refine Up.drewN ?_ _) | (with_reducible refine Up.call ?_ (by with_reducible assumption))))
        case measure => have := Hlt.out; simp [intOf]; omega
      · have hd : decide (t.hi - t.lo < s.hi - s.lo) = false := by simpa using hw
        have Hw := hid (show ¬ widthF t < widthF s from hw)
        clear hw
        go_wp2_with fail
        go_quiet (fail)
        go_wp2
        go_roundw
        case rel =>
          refine ⟨k + 1, a, by have := Hlt.out; omega, Ha.out, by go_num, by go_num, ?_, ?_⟩
          · show _ = _
            rw [H.out, Hdr.out, Hgt.out]
            exact widestG_no (by have := Hw.out; omega)
          · (repeat (first | (with_reducible exact Up.refl _) | (with_reducible assumption) | (with_reducible refine Up.alloc ?_ _) | (with_reducible refine Up.drew ?_) | ((with_reducible refine Up.set ?_ ?_ _); rotate_left; focus (first | omega | (simp; done) | (simp; omega))) | (with_reducible refine Up.drewN ?_ _) | (with_reducible refine Up.call ?_ (by with_reducible assumption))))
        case measure => have := Hlt.out; simp [intOf]; omega
    · obtain rfl : k = l.length := by omega
      go_wp2
      go_ret
      refine RetX.mk (a : Int) hU ?_ rfl
      rw [H.out, List.drop_length]
      rfl
end Go.Proofs.YteoomjenekkomaaDoor
