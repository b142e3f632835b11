/- The walks of the reference's boxes that only read: Box, Boxes, Within, Has, Widest. -/
import Derived.Test.YtopgjbjpmnlldaaDoorRfs
import Derived.Test.YtopgjbjpmnlldaaDoorClone
set_option linter.unusedVariables false
set_option linter.unusedSimpArgs false
namespace Go.Proofs.YtopgjbjpmnlldaaDoor
open Go.RowKit

theorem firstBad_num {l : List Sp} {e : Nat} (h : firstBad l = some e) : e = 1 ∨ e = 3 := by
  induction l with
  | nil => cases h
  | cons s l ih =>
    unfold firstBad at h
    split at h
    · rename_i k hk; injection h with h; subst h; exact check_num hk
    · exact ih h
theorem bcheck_num {l : List Sp} {e : Nat} (h : bcheckF l = some e) : e = 5 ∨ e = 4 ∨ e = 1 ∨ e = 3 := by
  unfold bcheckF at h
  split at h
  · injection h with h; omega
  · split at h
    · injection h with h; omega
    · have := firstBad_num h; omega
theorem btwo_num {a b : List Sp} {e : Nat} (h : btwoF a b = some e) : e = 5 ∨ e = 4 ∨ e = 1 ∨ e = 3 := by
  unfold btwoF at h
  split at h
  · rename_i k hk; injection h with h; subst h; exact bcheck_num hk
  · split at h
    · rename_i k hk; injection h with h; subst h; exact bcheck_num hk
    · split at h
      · cases h
      · injection h with h; omega
theorem nz13 {e : Nat} (h : e = 1 ∨ e = 3) : ((e : Int) == 0) = false := by rcases h with rfl | rfl <;> rfl
theorem nn13 {e : Nat} (h : e = 1 ∨ e = 3) : ((e : Int) != 0) = true := by rcases h with rfl | rfl <;> rfl
theorem nzb {e : Nat} (h : e = 5 ∨ e = 4 ∨ e = 1 ∨ e = 3) : ((e : Int) == 0) = false := by rcases h with rfl | rfl | rfl | rfl <;> rfl
theorem nnb {e : Nat} (h : e = 5 ∨ e = 4 ∨ e = 1 ∨ e = 3) : ((e : Int) != 0) = true := by rcases h with rfl | rfl | rfl | rfl <;> rfl
set_option maxHeartbeats 1000000 in
theorem rbox_any (A : Option Addr) (l : List Sp) (c : Nat) (w : World) (hr : RdS w A l) :
    Calls Tryd.prog 22 #[.slice A l.length c] w (RetX numV (bcheckF l) w) := by
  by_cases h0 : l.length = 0
  · have hrr : bcheckF l = some 5 := by simp [bcheckF, h0]
    rw [hrr, h0]
    clear hrr h0 hr
    go_enter Tryd.func22, Tryd.ntmps22
    go_wp2
    go_ret
    exact RetX.mk (some 5) (Up.refl _) rfl rfl
  · by_cases h3 : 3 < l.length
    · have hrr : bcheckF l = some 4 := by simp [bcheckF, h0, h3]
      rw [hrr]
      clear hrr hr
      have hd : ((l.length : Int) == 0) = false := beq_eq_false_iff_ne.2 (by omega)
      have hd3 : decide ((3 : Int) < l.length) = true := by simp; omega
      go_enter Tryd.func22, Tryd.ntmps22
      go_wp2
      go_ret
      exact RetX.mk (some 4) (Up.refl _) rfl rfl
    · have hrr : bcheckF l = firstBad l := by simp [bcheckF, h0, h3]
      rw [hrr]
      have hd : ((l.length : Int) == 0) = false := beq_eq_false_iff_ne.2 (by omega)
      have hd3 : decide ((3 : Int) < l.length) = false := by simp; omega
      obtain ⟨bb, o, rfl, hb, hc⟩ := hr.at (by omega)
      have Hc := hid hc
      have h3' : l.length ≤ 3 := by omega
      clear hrr h0 h3 hc hr
      go_enter Tryd.func22, Tryd.ntmps22
      go_wp2
      go_loopw [3] (fun i wr => ∃ k : Nat, k ≤ l.length ∧ i = .int .i64 k ∧ Hid (firstBad l = firstBad (l.drop k)) ∧ Up w wr) (fun i _ => l.length - (intOf i).toNat)
      case atStart => exact ⟨0, by omega, rfl, rfl, Up.refl _⟩
      case round =>
        obtain ⟨k, hk, rfl, H, hU⟩ := hrel
        have gr := (bcell hU).1
        have hl := hU.le
        by_cases hlt : k < l.length
        · obtain ⟨hk1, hk2⟩ := Hc.out k hlt
          have Hdr := hid (sdrop l k hlt)
          generalize l[k]?.getD ⟨0, 0⟩ = s at *
          have hdk : decide ((k : Int) < (l.length : Int)) = true := by simp; omega
          have hkl : (k : Int) < (l.length : Int) := by omega
          go_wp2_with ((go_at_call 46; (with_reducible refine (rspan_any _ _ _).mono ?_); rintro e w1 ⟨(_|n1), hx1, rfl, hb1⟩ <;> ((try have q1 := nn13 (check_num hx1)))) <;> (have hle := Up.le hb1; (try simp only [World.size_alloc, World.size_setCell, World.size_drew, World.heap_drewN] at hle); (try (have _ : w.heap.size < w1.heap.size := (by omega); (try (apply fk hb1 (w.heap.size); (focus (go_simp; rfl)); (focus (intro o; go_simp)); intro z; (try clear f_0); have f_0 := z; clear z)); (try (apply ck hb1 (w.heap.size) 0; (focus (go_simp; rfl)); intro z; (try clear c_0_0); have c_0_0 := z; clear z; (try (apply ck hb1 (w.heap.size) 1; (focus (go_simp; rfl)); intro z; (try clear c_0_1); have c_0_1 := z; clear z)))); (try (have _ : w.heap.size + 1 < w1.heap.size := (by omega); (try (apply fk hb1 (w.heap.size + 1); (focus (go_simp; rfl)); (focus (intro o; go_simp)); intro z; (try clear f_1); have f_1 := z; clear z)); (try (apply ck hb1 (w.heap.size + 1) 0; (focus (go_simp; rfl)); intro z; (try clear c_1_0); have c_1_0 := z; clear z; (try (apply ck hb1 (w.heap.size + 1) 1; (focus (go_simp; rfl)); intro z; (try clear c_1_1); have c_1_1 := z; clear z)))); (try (have _ : w.heap.size + 1 + 1 < w1.heap.size := (by omega); (try (apply fk hb1 (w.heap.size + 1 + 1); (focus (go_simp; rfl)); (focus (intro o; go_simp)); intro z; (try clear f_2); have f_2 := z; clear z)); (try (apply ck hb1 (w.heap.size + 1 + 1) 0; (focus (go_simp; rfl)); intro z; (try clear c_2_0); have c_2_0 := z; clear z; (try (apply ck hb1 (w.heap.size + 1 + 1) 1; (focus (go_simp; rfl)); intro z; (try clear c_2_1); have c_2_1 := z; clear z)))); (try (have _ : w.heap.size + 1 + 1 + 1 < w1.heap.size := (by omega); (try (apply fk hb1 (w.heap.size + 1 + 1 + 1); (focus (go_simp; rfl)); (focus (intro o; go_simp)); intro z; (try clear f_3); have f_3 := z; clear z)); (try (apply ck hb1 (w.heap.size + 1 + 1 + 1) 0; (focus (go_simp; rfl)); intro z; (try clear c_3_0); have c_3_0 := z; clear z; (try (apply ck hb1 (w.heap.size + 1 + 1 + 1) 1; (focus (go_simp; rfl)); intro z; (try clear c_3_1); have c_3_1 := z; clear z)))); (try (have _ : w.heap.size + 1 + 1 + 1 + 1 < w1.heap.size := (by omega); (try (apply fk hb1 (w.heap.size + 1 + 1 + 1 + 1); (focus (go_simp; rfl)); (focus (intro o; go_simp)); intro z; (try clear f_4); have f_4 := z; clear z)); (try (apply ck hb1 (w.heap.size + 1 + 1 + 1 + 1) 0; (focus (go_simp; rfl)); intro z; (try clear c_4_0); have c_4_0 := z; clear z; (try (apply ck hb1 (w.heap.size + 1 + 1 + 1 + 1) 1; (focus (go_simp; rfl)); intro z; (try clear c_4_1); have c_4_1 := z; clear z)))))))))))))); (try (have _ : wr.heap.size < w1.heap.size := (by omega); (try (apply fk hb1 (wr.heap.size); (focus (go_simp; rfl)); (focus (intro o; go_simp)); intro z; (try clear fr_0); have fr_0 := z; clear z)); (try (apply ck hb1 (wr.heap.size) 0; (focus (go_simp; rfl)); intro z; (try clear cr_0_0); have cr_0_0 := z; clear z; (try (apply ck hb1 (wr.heap.size) 1; (focus (go_simp; rfl)); intro z; (try clear cr_0_1); have cr_0_1 := z; clear z)))); (try (have _ : wr.heap.size + 1 < w1.heap.size := (by omega); (try (apply fk hb1 (wr.heap.size + 1); (focus (go_simp; rfl)); (focus (intro o; go_simp)); intro z; (try clear fr_1); have fr_1 := z; clear z)); (try (apply ck hb1 (wr.heap.size + 1) 0; (focus (go_simp; rfl)); intro z; (try clear cr_1_0); have cr_1_0 := z; clear z; (try (apply ck hb1 (wr.heap.size + 1) 1; (focus (go_simp; rfl)); intro z; (try clear cr_1_1); have cr_1_1 := z; clear z)))); (try (have _ : wr.heap.size + 1 + 1 < w1.heap.size := (by omega); (try (apply fk hb1 (wr.heap.size + 1 + 1); (focus (go_simp; rfl)); (focus (intro o; go_simp)); intro z; (try clear fr_2); have fr_2 := z; clear z)); (try (apply ck hb1 (wr.heap.size + 1 + 1) 0; (focus (go_simp; rfl)); intro z; (try clear cr_2_0); have cr_2_0 := z; clear z; (try (apply ck hb1 (wr.heap.size + 1 + 1) 1; (focus (go_simp; rfl)); intro z; (try clear cr_2_1); have cr_2_1 := z; clear z)))); (try (have _ : wr.heap.size + 1 + 1 + 1 < w1.heap.size := (by omega); (try (apply fk hb1 (wr.heap.size + 1 + 1 + 1); (focus (go_simp; rfl)); (focus (intro o; go_simp)); intro z; (try clear fr_3); have fr_3 := z; clear z)); (try (apply ck hb1 (wr.heap.size + 1 + 1 + 1) 0; (focus (go_simp; rfl)); intro z; (try clear cr_3_0); have cr_3_0 := z; clear z; (try (apply ck hb1 (wr.heap.size + 1 + 1 + 1) 1; (focus (go_simp; rfl)); intro z; (try clear cr_3_1); have cr_3_1 := z; clear z)))); (try (have _ : wr.heap.size + 1 + 1 + 1 + 1 < w1.heap.size := (by omega); (try (apply fk hb1 (wr.heap.size + 1 + 1 + 1 + 1); (focus (go_simp; rfl)); (focus (intro o; go_simp)); intro z; (try clear fr_4); have fr_4 := z; clear z)); (try (apply ck hb1 (wr.heap.size + 1 + 1 + 1 + 1) 0; (focus (go_simp; rfl)); intro z; (try clear cr_4_0); have cr_4_0 := z; clear z; (try (apply ck hb1 (wr.heap.size + 1 + 1 + 1 + 1) 1; (focus (go_simp; rfl)); intro z; (try clear cr_4_1); have cr_4_1 := z; clear z)))))))))))))); clear hle; (try (apply old_keep (w0 := w) (w := w1); (focus ((repeat (first | (with_reducible exact Up.refl _) | (with_reducible assumption) | (with_reducible refine Up.alloc ?_ _) | (with_reducible refine Up.drew ?_) | ((with_reducible refine Up.set ?_ ?_ _); rotate_left; focus (first | omega | (simp; done) | (simp; omega))) | (with_reducible refine Up.drewN ?_ _) | (with_reducible refine Up.call ?_ (by with_reducible assumption)))))); intro y z; (try clear hUp); (try clear hOld); have hUp := y; have hOld := z; clear y z))))
          · go_roundw
            case rel =>
              refine ⟨k + 1, by omega, by go_num, ?_, ?_⟩
              · show _ = _
                rw [H.out, Hdr.out]; exact firstBad_none hx1
              · (repeat (first | (with_reducible exact Up.refl _) | (with_reducible assumption) | (with_reducible refine Up.alloc ?_ _) | (with_reducible refine Up.drew ?_) | ((with_reducible refine Up.set ?_ ?_ _); rotate_left; focus (first | omega | (simp; done) | (simp; omega))) | (with_reducible refine Up.drewN ?_ _) | (with_reducible refine Up.call ?_ (by with_reducible assumption))))
            case measure => simp [intOf]; omega
          · go_ret
            refine RetX.mk (some n1) ?_ ?_ rfl
            · (repeat (first | (with_reducible exact Up.refl _) | (with_reducible assumption) | (with_reducible refine Up.alloc ?_ _) | (with_reducible refine Up.drew ?_) | ((with_reducible refine Up.set ?_ ?_ _); rotate_left; focus (first | omega | (simp; done) | (simp; omega))) | (with_reducible refine Up.drewN ?_ _) | (with_reducible refine Up.call ?_ (by with_reducible assumption))))
            · rw [H.out, Hdr.out]; exact firstBad_some hx1
        · obtain rfl : k = l.length := by omega
          go_wp2
          go_ret
          refine RetX.mk none hU ?_ rfl
          rw [H.out, List.drop_length]; rfl

theorem widestF_tail {l : List Sp} (h0 : 0 < l.length) : widestF l = widestG (l.drop 1) 1 0 (widthF (l[0]?.getD ⟨0, 0⟩)) := by
  cases l with
  | nil => simp at h0
  | cons s l =>
    show widestG (s :: l) 0 0 (widthF s) = widestG l 1 0 (widthF s)
    exact widestG_no (by omega)
end Go.Proofs.YtopgjbjpmnlldaaDoor
