/- The walks of package box that only read: Check, two, In, Within, Has. -/
import Derived.Test.YtafhcppigpjcpaaDoorSpanb
import Derived.Test.YtafhcppigpjcpaaDoorOwn
import Derived.LoopN
set_option linter.unusedVariables false
set_option linter.unusedSimpArgs false
namespace Go.Proofs.YtafhcppigpjcpaaDoor
open Go.RowKit

theorem RdS.at {w : World} {A : Option Addr} {l : List Sp} (h : RdS w A l) (hl : 0 < l.length) : ∃ b o, A = some ⟨b, o, none⟩ ∧ b < w.heap.size ∧ ∀ k, k < l.length → w.cell? ⟨b, o + k * 2, none⟩ = some (.int .i64 (l[k]?.getD ⟨0, 0⟩).lo) ∧ w.cell? ⟨b, o + k * 2 + 1, none⟩ = some (.int .i64 (l[k]?.getD ⟨0, 0⟩).hi) :=
  h (fun e => by simp [e] at hl)
theorem sdrop (l : List Sp) (k : Nat) (h : k < l.length) : l.drop k = (l[k]?.getD ⟨0, 0⟩) :: l.drop (k + 1) := by
  rw [List.drop_eq_getElem_cons h, List.getElem?_eq_getElem h]; rfl
theorem firstBad_some {s : Sp} {l : List Sp} {e : Nat} (h : checkF s = some e) : firstBad (s :: l) = some e := by unfold firstBad; rw [h]
theorem firstBad_none {s : Sp} {l : List Sp} (h : checkF s = none) : firstBad (s :: l) = firstBad l := by
  conv => lhs; unfold firstBad
  rw [h]
set_option maxHeartbeats 1000000 in
theorem bcheck_any (A : Option Addr) (l : List Sp) (c : Nat) (w : World) (hr : RdS w A l) :
    Calls Tryd.prog 28 #[.slice A l.length c] w (RetX errV (bcheckF l) w) := by
  by_cases h0 : l.length = 0
  · have hrr : bcheckF l = some 5 := by simp [bcheckF, h0]
    rw [hrr, h0]
    clear hrr h0 hr
    go_enter Tryd.func28, Tryd.ntmps28
    go_wp2
    go_ret
    exact RetX.mk (some 5) (Up.refl _) rfl rfl
  · by_cases h3 : 3 < l.length
    · have hrr : bcheckF l = some 4 := by simp [bcheckF, h0, h3]
      rw [hrr]
      clear hrr hr
      have hd : ((l.length : Int) == 0) = false := beq_eq_false_iff_ne.2 (by omega)
      go_enter Tryd.func28, Tryd.ntmps28
      go_wp2
      go_ret
      exact RetX.mk (some 4) (Up.refl _) rfl rfl
    · have hrr : bcheckF l = firstBad l := by simp [bcheckF, h0, h3]
      rw [hrr]
      have hd : ((l.length : Int) == 0) = false := beq_eq_false_iff_ne.2 (by omega)
      have hd3 : decide ((3 : Int) < l.length) = false := by simp; omega
      obtain ⟨bb, o, rfl, hb, hc⟩ := hr.at (by omega)
      have Hc := hid hc
      have h3' : l.length ≤ 3 := by omega
      clear hrr h0 h3 hc hr
      go_enter Tryd.func28, Tryd.ntmps28
      go_wp2
      go_loopw [18] (fun i wr => ∃ k : Nat, k ≤ l.length ∧ i = .int .i64 k ∧ Hid (firstBad l = firstBad (l.drop k)) ∧ Up w wr) (fun i _ => l.length - (intOf i).toNat)
      case atStart => exact ⟨0, by omega, rfl, rfl, Up.refl _⟩
      case round =>
        obtain ⟨k, hk, rfl, H, hU⟩ := hrel
        have gr := (bcell hU).1
        have hl := hU.le
        by_cases hlt : k < l.length
        · obtain ⟨hk1, hk2⟩ := Hc.out k hlt
          have Hdr := hid (sdrop l k hlt)
          generalize l[k]?.getD ⟨0, 0⟩ = s at *
          have hdk : decide ((k : Int) < (l.length : Int)) = true := by simp; omega
          go_wp2_with ((go_at_call 26; (with_reducible refine (check_any _ _ _).mono ?_); rintro e w1 ⟨(_|n1), hx1, rfl, hb1⟩) <;> (have hle := Up.le hb1; (try simp only [World.size_alloc, World.size_setCell, World.size_drew, World.heap_drewN] at hle); (try (have _ : w.heap.size < w1.heap.size := (by omega); (try (apply fk hb1 (w.heap.size); (focus (go_simp; rfl)); (focus (intro o; go_simp)); intro z; (try clear f_0); have f_0 := z; clear z)); (try (apply ck hb1 (w.heap.size) 0; (focus (go_simp; rfl)); intro z; (try clear c_0_0); have c_0_0 := z; clear z; (try (apply ck hb1 (w.heap.size) 1; (focus (go_simp; rfl)); intro z; (try clear c_0_1); have c_0_1 := z; clear z)))); (try (have _ : w.heap.size + 1 < w1.heap.size := (by omega); (try (apply fk hb1 (w.heap.size + 1); (focus (go_simp; rfl)); (focus (intro o; go_simp)); intro z; (try clear f_1); have f_1 := z; clear z)); (try (apply ck hb1 (w.heap.size + 1) 0; (focus (go_simp; rfl)); intro z; (try clear c_1_0); have c_1_0 := z; clear z; (try (apply ck hb1 (w.heap.size + 1) 1; (focus (go_simp; rfl)); intro z; (try clear c_1_1); have c_1_1 := z; clear z)))); (try (have _ : w.heap.size + 1 + 1 < w1.heap.size := (by omega); (try (apply fk hb1 (w.heap.size + 1 + 1); (focus (go_simp; rfl)); (focus (intro o; go_simp)); intro z; (try clear f_2); have f_2 := z; clear z)); (try (apply ck hb1 (w.heap.size + 1 + 1) 0; (focus (go_simp; rfl)); intro z; (try clear c_2_0); have c_2_0 := z; clear z; (try (apply ck hb1 (w.heap.size + 1 + 1) 1; (focus (go_simp; rfl)); intro z; (try clear c_2_1); have c_2_1 := z; clear z)))); (try (have _ : w.heap.size + 1 + 1 + 1 < w1.heap.size := (by omega); (try (apply fk hb1 (w.heap.size + 1 + 1 + 1); (focus (go_simp; rfl)); (focus (intro o; go_simp)); intro z; (try clear f_3); have f_3 := z; clear z)); (try (apply ck hb1 (w.heap.size + 1 + 1 + 1) 0; (focus (go_simp; rfl)); intro z; (try clear c_3_0); have c_3_0 := z; clear z; (try (apply ck hb1 (w.heap.size + 1 + 1 + 1) 1; (focus (go_simp; rfl)); intro z; (try clear c_3_1); have c_3_1 := z; clear z)))); (try (have _ : w.heap.size + 1 + 1 + 1 + 1 < w1.heap.size := (by omega); (try (apply fk hb1 (w.heap.size + 1 + 1 + 1 + 1); (focus (go_simp; rfl)); (focus (intro o; go_simp)); intro z; (try clear f_4); have f_4 := z; clear z)); (try (apply ck hb1 (w.heap.size + 1 + 1 + 1 + 1) 0; (focus (go_simp; rfl)); intro z; (try clear c_4_0); have c_4_0 := z; clear z; (try (apply ck hb1 (w.heap.size + 1 + 1 + 1 + 1) 1; (focus (go_simp; rfl)); intro z; (try clear c_4_1); have c_4_1 := z; clear z)))))))))))))); (try (have _ : wr.heap.size < w1.heap.size := (by omega); (try (apply fk hb1 (wr.heap.size); (focus (go_simp; rfl)); (focus (intro o; go_simp)); intro z; (try clear fr_0); have fr_0 := z; clear z)); (try (apply ck hb1 (wr.heap.size) 0; (focus (go_simp; rfl)); intro z; (try clear cr_0_0); have cr_0_0 := z; clear z; (try (apply ck hb1 (wr.heap.size) 1; (focus (go_simp; rfl)); intro z; (try clear cr_0_1); have cr_0_1 := z; clear z)))); (try (have _ : wr.heap.size + 1 < w1.heap.size := (by omega); (try (apply fk hb1 (wr.heap.size + 1); (focus (go_simp; rfl)); (focus (intro o; go_simp)); intro z; (try clear fr_1); have fr_1 := z; clear z)); (try (apply ck hb1 (wr.heap.size + 1) 0; (focus (go_simp; rfl)); intro z; (try clear cr_1_0); have cr_1_0 := z; clear z; (try (apply ck hb1 (wr.heap.size + 1) 1; (focus (go_simp; rfl)); intro z; (try clear cr_1_1); have cr_1_1 := z; clear z)))); (try (have _ : wr.heap.size + 1 + 1 < w1.heap.size := (by omega); (try (apply fk hb1 (wr.heap.size + 1 + 1); (focus (go_simp; rfl)); (focus (intro o; go_simp)); intro z; (try clear fr_2); have fr_2 := z; clear z)); (try (apply ck hb1 (wr.heap.size + 1 + 1) 0; (focus (go_simp; rfl)); intro z; (try clear cr_2_0); have cr_2_0 := z; clear z; (try (apply ck hb1 (wr.heap.size + 1 + 1) 1; (focus (go_simp; rfl)); intro z; (try clear cr_2_1); have cr_2_1 := z; clear z)))); (try (have _ : wr.heap.size + 1 + 1 + 1 < w1.heap.size := (by omega); (try (apply fk hb1 (wr.heap.size + 1 + 1 + 1); (focus (go_simp; rfl)); (focus (intro o; go_simp)); intro z; (try clear fr_3); have fr_3 := z; clear z)); (try (apply ck hb1 (wr.heap.size + 1 + 1 + 1) 0; (focus (go_simp; rfl)); intro z; (try clear cr_3_0); have cr_3_0 := z; clear z; (try (apply ck hb1 (wr.heap.size + 1 + 1 + 1) 1; (focus (go_simp; rfl)); intro z; (try clear cr_3_1); have cr_3_1 := z; clear z)))); (try (have _ : wr.heap.size + 1 + 1 + 1 + 1 < w1.heap.size := (by omega); (try (apply fk hb1 (wr.heap.size + 1 + 1 + 1 + 1); (focus (go_simp; rfl)); (focus (intro o; go_simp)); intro z; (try clear fr_4); have fr_4 := z; clear z)); (try (apply ck hb1 (wr.heap.size + 1 + 1 + 1 + 1) 0; (focus (go_simp; rfl)); intro z; (try clear cr_4_0); have cr_4_0 := z; clear z; (try (apply ck hb1 (wr.heap.size + 1 + 1 + 1 + 1) 1; (focus (go_simp; rfl)); intro z; (try clear cr_4_1); have cr_4_1 := z; clear z)))))))))))))); clear hle; (try (apply old_keep (w0 := w) (w := w1); (focus ((repeat (first | (with_reducible exact Up.refl _) | (with_reducible assumption) | (with_reducible refine Up.alloc ?_ _) | (with_reducible refine Up.drew ?_) | ((with_reducible refine Up.set ?_ ?_ _); rotate_left; focus (first | omega | (simp; done) | (simp; omega))) | (with_reducible refine Up.drewN ?_ _) | (with_reducible refine Up.call ?_ (by with_reducible assumption)))))); intro y z; (try clear hUp); (try clear hOld); have hUp := y; have hOld := z; clear y z))))
          · go_roundw
            case rel =>
              refine ⟨k + 1, by omega, by go_num, ?_, ?_⟩
              · show _ = _
                rw [H.out, Hdr.out]; exact firstBad_none hx1
              · (repeat (first | (with_reducible exact Up.refl _) | (with_reducible assumption) | (with_reducible refine Up.alloc ?_ _) | (with_reducible refine Up.drew ?_) | ((with_reducible refine Up.set ?_ ?_ _); rotate_left; focus (first | omega | (simp; done) | (simp; omega))) | (with_reducible refine Up.drewN ?_ _) | (with_reducible refine Up.call ?_ (by with_reducible assumption))))
            case measure => simp [intOf]; omega
          · go_ret
            refine RetX.mk (some n1) ?_ ?_ rfl
            · (repeat (first | (with_reducible exact Up.refl _) | (with_reducible assumption) | (with_reducible refine Up.alloc ?_ _) | (with_reducible refine Up.drew ?_) | ((with_reducible refine Up.set ?_ ?_ _); rotate_left; focus (first | omega | (simp; done) | (simp; omega))) | (with_reducible refine Up.drewN ?_ _) | (with_reducible refine Up.call ?_ (by with_reducible assumption))))
            · rw [H.out, Hdr.out]; exact firstBad_some hx1
        · obtain rfl : k = l.length := by omega
          go_wp2
          go_ret
          refine RetX.mk none hU ?_ rfl
          rw [H.out, List.drop_length]; rfl

set_option maxHeartbeats 1000000 in
theorem btwo_any (A B : Option Addr) (a b : List Sp) (c d : Nat) (w : World) (ha : RdS w A a) (hb : RdS w B b) :
    Calls Tryd.prog 96 #[.slice A a.length c, .slice B b.length d] w (RetX errV (btwoF a b) w) := by
  have Ha := hid ha; have Hb := hid hb; clear ha hb
  by_cases hl : a.length = b.length
  all_goals
    have Hl := hid hl
    first
      | have hdl : ((a.length : Int) != (b.length : Int)) = false := by simp; omega
      | have hdl : ((a.length : Int) != (b.length : Int)) = true := by simp; omega
    clear hl
    go_enter Tryd.func96, Tryd.ntmps96
    go_wp2
    refine wp_loop_rounds 3 ?_
    repeat any_goals (rw [rounds_succ]; go_wp2_with (first
      | ((go_at_call 28; have _n := hb1; clear _n; (with_reducible refine (bcheck_any B b d _ (Hb.out.up (by (repeat (first | (with_reducible exact Up.refl _) | (with_reducible assumption) | (with_reducible refine Up.alloc ?_ _) | (with_reducible refine Up.drew ?_) | ((with_reducible refine Up.set ?_ ?_ _); rotate_left; focus (first | omega | (simp; done) | (simp; omega))) | (with_reducible refine Up.drewN ?_ _) | (with_reducible refine Up.call ?_ (by with_reducible assumption))))))).mono ?_); rintro e w2 ⟨(_|n2), hx2, rfl, hb2⟩) <;> (have hle := Up.le hb2; (try simp only [World.size_alloc, World.size_setCell, World.size_drew, World.heap_drewN] at hle); (try (have _ : w.heap.size < w2.heap.size := (by omega); (try (apply fk hb2 (w.heap.size); (focus (go_simp; rfl)); (focus (intro o; go_simp)); intro z; (try clear f_0); have f_0 := z; clear z)); (try (apply ck hb2 (w.heap.size) 0; (focus (go_simp; rfl)); intro z; (try clear c_0_0); have c_0_0 := z; clear z; (try (apply ck hb2 (w.heap.size) 1; (focus (go_simp; rfl)); intro z; (try clear c_0_1); have c_0_1 := z; clear z)))); (try (have _ : w.heap.size + 1 < w2.heap.size := (by omega); (try (apply fk hb2 (w.heap.size + 1); (focus (go_simp; rfl)); (focus (intro o; go_simp)); intro z; (try clear f_1); have f_1 := z; clear z)); (try (apply ck hb2 (w.heap.size + 1) 0; (focus (go_simp; rfl)); intro z; (try clear c_1_0); have c_1_0 := z; clear z; (try (apply ck hb2 (w.heap.size + 1) 1; (focus (go_simp; rfl)); intro z; (try clear c_1_1); have c_1_1 := z; clear z)))); (try (have _ : w.heap.size + 1 + 1 < w2.heap.size := (by omega); (try (apply fk hb2 (w.heap.size + 1 + 1); (focus (go_simp; rfl)); (focus (intro o; go_simp)); intro z; (try clear f_2); have f_2 := z; clear z)); (try (apply ck hb2 (w.heap.size + 1 + 1) 0; (focus (go_simp; rfl)); intro z; (try clear c_2_0); have c_2_0 := z; clear z; (try (apply ck hb2 (w.heap.size + 1 + 1) 1; (focus (go_simp; rfl)); intro z; (try clear c_2_1); have c_2_1 := z; clear z)))); (try (have _ : w.heap.size + 1 + 1 + 1 < w2.heap.size := (by omega); (try (apply fk hb2 (w.heap.size + 1 + 1 + 1); (focus (go_simp; rfl)); (focus (intro o; go_simp)); intro z; (try clear f_3); have f_3 := z; clear z)); (try (apply ck hb2 (w.heap.size + 1 + 1 + 1) 0; (focus (go_simp; rfl)); intro z; (try clear c_3_0); have c_3_0 := z; clear z; (try (apply ck hb2 (w.heap.size + 1 + 1 + 1) 1; (focus (go_simp; rfl)); intro z; (try clear c_3_1); have c_3_1 := z; clear z)))); (try (have _ : w.heap.size + 1 + 1 + 1 + 1 < w2.heap.size := (by omega); (try (apply fk hb2 (w.heap.size + 1 + 1 + 1 + 1); (focus (go_simp; rfl)); (focus (intro o; go_simp)); intro z; (try clear f_4); have f_4 := z; clear z)); (try (apply ck hb2 (w.heap.size + 1 + 1 + 1 + 1) 0; (focus (go_simp; rfl)); intro z; (try clear c_4_0); have c_4_0 := z; clear z; (try (apply ck hb2 (w.heap.size + 1 + 1 + 1 + 1) 1; (focus (go_simp; rfl)); intro z; (try clear c_4_1); have c_4_1 := z; clear z)))))))))))))); (try (have _ : w1.heap.size < w2.heap.size := (by omega); (try (apply fk hb2 (w1.heap.size); (focus (go_simp; rfl)); (focus (intro o; go_simp)); intro z; (try clear f1_0); have f1_0 := z; clear z)); (try (apply ck hb2 (w1.heap.size) 0; (focus (go_simp; rfl)); intro z; (try clear c1_0_0); have c1_0_0 := z; clear z; (try (apply ck hb2 (w1.heap.size) 1; (focus (go_simp; rfl)); intro z; (try clear c1_0_1); have c1_0_1 := z; clear z)))); (try (have _ : w1.heap.size + 1 < w2.heap.size := (by omega); (try (apply fk hb2 (w1.heap.size + 1); (focus (go_simp; rfl)); (focus (intro o; go_simp)); intro z; (try clear f1_1); have f1_1 := z; clear z)); (try (apply ck hb2 (w1.heap.size + 1) 0; (focus (go_simp; rfl)); intro z; (try clear c1_1_0); have c1_1_0 := z; clear z; (try (apply ck hb2 (w1.heap.size + 1) 1; (focus (go_simp; rfl)); intro z; (try clear c1_1_1); have c1_1_1 := z; clear z)))))))); clear hle; (try (apply old_keep (w0 := w) (w := w2); (focus ((repeat (first | (with_reducible exact Up.refl _) | (with_reducible assumption) | (with_reducible refine Up.alloc ?_ _) | (with_reducible refine Up.drew ?_) | ((with_reducible refine Up.set ?_ ?_ _); rotate_left; focus (first | omega | (simp; done) | (simp; omega))) | (with_reducible refine Up.drewN ?_ _) | (with_reducible refine Up.call ?_ (by with_reducible assumption)))))); intro y z; (try clear hUp); (try clear hOld); have hUp := y; have hOld := z; clear y z))))
      | ((go_at_call 28; (with_reducible refine (bcheck_any A a c _ (Ha.out.up (by (repeat (first | (with_reducible exact Up.refl _) | (with_reducible assumption) | (with_reducible refine Up.alloc ?_ _) | (with_reducible refine Up.drew ?_) | ((with_reducible refine Up.set ?_ ?_ _); rotate_left; focus (first | omega | (simp; done) | (simp; omega))) | (with_reducible refine Up.drewN ?_ _) | (with_reducible refine Up.call ?_ (by with_reducible assumption))))))).mono ?_); rintro e w1 ⟨(_|n1), hx1, rfl, hb1⟩) <;> (have hle := Up.le hb1; (try simp only [World.size_alloc, World.size_setCell, World.size_drew, World.heap_drewN] at hle); (try (have _ : w.heap.size < w1.heap.size := (by omega); (try (apply fk hb1 (w.heap.size); (focus (go_simp; rfl)); (focus (intro o; go_simp)); intro z; (try clear f_0); have f_0 := z; clear z)); (try (apply ck hb1 (w.heap.size) 0; (focus (go_simp; rfl)); intro z; (try clear c_0_0); have c_0_0 := z; clear z; (try (apply ck hb1 (w.heap.size) 1; (focus (go_simp; rfl)); intro z; (try clear c_0_1); have c_0_1 := z; clear z)))); (try (have _ : w.heap.size + 1 < w1.heap.size := (by omega); (try (apply fk hb1 (w.heap.size + 1); (focus (go_simp; rfl)); (focus (intro o; go_simp)); intro z; (try clear f_1); have f_1 := z; clear z)); (try (apply ck hb1 (w.heap.size + 1) 0; (focus (go_simp; rfl)); intro z; (try clear c_1_0); have c_1_0 := z; clear z; (try (apply ck hb1 (w.heap.size + 1) 1; (focus (go_simp; rfl)); intro z; (try clear c_1_1); have c_1_1 := z; clear z)))); (try (have _ : w.heap.size + 1 + 1 < w1.heap.size := (by omega); (try (apply fk hb1 (w.heap.size + 1 + 1); (focus (go_simp; rfl)); (focus (intro o; go_simp)); intro z; (try clear f_2); have f_2 := z; clear z)); (try (apply ck hb1 (w.heap.size + 1 + 1) 0; (focus (go_simp; rfl)); intro z; (try clear c_2_0); have c_2_0 := z; clear z; (try (apply ck hb1 (w.heap.size + 1 + 1) 1; (focus (go_simp; rfl)); intro z; (try clear c_2_1); have c_2_1 := z; clear z)))); (try (have _ : w.heap.size + 1 + 1 + 1 < w1.heap.size := (by omega); (try (apply fk hb1 (w.heap.size + 1 + 1 + 1); (focus (go_simp; rfl)); (focus (intro o; go_simp)); intro z; (try clear f_3); have f_3 := z; clear z)); (try (apply ck hb1 (w.heap.size + 1 + 1 + 1) 0; (focus (go_simp; rfl)); intro z; (try clear c_3_0); have c_3_0 := z; clear z; (try (apply ck hb1 (w.heap.size + 1 + 1 + 1) 1; (focus (go_simp; rfl)); intro z; (try clear c_3_1); have c_3_1 := z; clear z)))); (try (have _ : w.heap.size + 1 + 1 + 1 + 1 < w1.heap.size := (by omega); (try (apply fk hb1 (w.heap.size + 1 + 1 + 1 + 1); (focus (go_simp; rfl)); (focus (intro o; go_simp)); intro z; (try clear f_4); have f_4 := z; clear z)); (try (apply ck hb1 (w.heap.size + 1 + 1 + 1 + 1) 0; (focus (go_simp; rfl)); intro z; (try clear c_4_0); have c_4_0 := z; clear z; (try (apply ck hb1 (w.heap.size + 1 + 1 + 1 + 1) 1; (focus (go_simp; rfl)); intro z; (try clear c_4_1); have c_4_1 := z; clear z)))))))))))))); clear hle; (try (apply old_keep (w0 := w) (w := w1); (focus ((repeat (first | (with_reducible exact Up.refl _) | (with_reducible assumption) | (with_reducible refine Up.alloc ?_ _) | (with_reducible refine Up.drew ?_) | ((with_reducible refine Up.set ?_ ?_ _); rotate_left; focus (first | omega | (simp; done) | (simp; omega))) | (with_reducible refine Up.drewN ?_ _) | (with_reducible refine Up.call ?_ (by with_reducible assumption)))))); intro y z; (try clear hUp); (try clear hOld); have hUp := y; have hOld := z; clear y z))))))
    all_goals
      go_ret
      first
        | (refine RetX.mk (some n1) ?_ ?_ rfl; rotate_left; (focus (simp only [btwoF, hx1])))
        | (refine RetX.mk (some n2) ?_ ?_ rfl; rotate_left; (focus (simp only [btwoF, hx1, hx2])))
        | (refine RetX.mk none ?_ ?_ rfl; rotate_left; (focus (simp only [btwoF, hx1, hx2]; rw [if_pos Hl.out])))
        | (refine RetX.mk (some 3) ?_ ?_ rfl; rotate_left; (focus (simp only [btwoF, hx1, hx2]; rw [if_neg Hl.out])))
      (repeat (first | (with_reducible exact Up.refl _) | (with_reducible assumption) | (with_reducible refine Up.alloc ?_ _) | (with_reducible refine Up.drew ?_) | ((with_reducible refine Up.set ?_ ?_ _); rotate_left; focus (first | omega | (simp; done) | (simp; omega))) | (with_reducible refine Up.drewN ?_ _) | (with_reducible refine Up.call ?_ (by with_reducible assumption))))
end Go.Proofs.YtafhcppigpjcpaaDoor
