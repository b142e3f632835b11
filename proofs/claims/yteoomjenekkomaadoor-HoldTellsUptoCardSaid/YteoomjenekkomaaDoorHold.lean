/- The walks of package hold: Is, wider. -/
import Derived.Test.YteoomjenekkomaaDoorFlowc
import Derived.Test.YteoomjenekkomaaDoorStepc

set_option linter.unusedVariables false
set_option linter.unusedSimpArgs false
namespace Go.Proofs.YteoomjenekkomaaDoor
open Go.RowKit

theorem isF_err {s : Sy} {b : List Sp} {e : Nat} (h : ofF s b = .error e) : isF s b = .error e := by unfold isF; rw [h]
theorem isF_of {s : Sy} {b x : List Sp} (h : ofF s b = .ok x) : isF s b = .ok (inF x b) := by unfold isF; rw [h]
set_option maxRecDepth 100000 in
set_option maxHeartbeats 4000000 in
theorem his_any (A B C : Option Addr) (s : Sy) (b : List Sp) (c d e : Nat) (w : World) (hY : RY w A B s) (hb : RdS w C b) :
    Calls Tryd.prog 31 #[.agg #[.slice A s.next.length c, .slice B s.push.length d], .slice C b.length e] w (RetX boolR (isF s b) w) := by
  have HY := hid hY; have Hb := hid hb; clear hY hb
  cases h : ofF s b with
  | error e0 =>
    rw [isF_err h]
    have H := hid h; clear h
    go_enter Tryd.func31, Tryd.ntmps31
    go_wp2_with (first
                        | ((go_at_call 26; (with_reducible refine (of_any _ _ _ s b _ _ _ _ (HY.out.up (by (repeat (first | (with_reducible exact Up.refl _) | (with_reducible assumption) | (with_reducible refine Up.alloc ?_ _) | (with_reducible refine Up.drew ?_) | ((with_reducible refine Up.set ?_ ?_ _); rotate_left; focus (first | omega | (simp; done) | (simp; omega))) | (with_reducible refine Up.drewN ?_ _) | (with_reducible refine Up.call ?_ (by with_reducible assumption)))))) (Hb.out.up (by (repeat (first | (with_reducible exact Up.refl _) | (with_reducible assumption) | (with_reducible refine Up.alloc ?_ _) | (with_reducible refine Up.drew ?_) | ((with_reducible refine Up.set ?_ ?_ _); rotate_left; focus (first | omega | (simp; done) | (simp; omega))) | (with_reducible refine Up.drewN ?_ _) | (with_reducible refine Up.call ?_ (by with_reducible assumption))))))).mono ?_); rintro e w1 ⟨x1, v1, hx1, rfl, hv1, hb1⟩ <;> (rw [H.out] at hx1; subst hx1; obtain rfl := slNE_error hv1; clear hv1)) <;> (have hle := Up.le hb1; (try simp only [World.size_alloc, World.size_setCell, World.size_drew, World.heap_drewN] at hle); (try (have _ : w.heap.size < w1.heap.size := (by omega); (try (apply fk hb1 (w.heap.size); (focus (go_simp; rfl)); (focus (intro o; go_simp)); intro z; (try clear f_0); have f_0 := z; clear z)); (try (apply ck hb1 (w.heap.size) 0; (focus (go_simp; rfl)); intro z; (try clear c_0_0); have c_0_0 := z; clear z; (try (apply ck hb1 (w.heap.size) 1; (focus (go_simp; rfl)); intro z; (try clear c_0_1); have c_0_1 := z; clear z)))); (try (have _ : w.heap.size + 1 < w1.heap.size := (by omega); (try (apply fk hb1 (w.heap.size + 1); (focus (go_simp; rfl)); (focus (intro o; go_simp)); intro z; (try clear f_1); have f_1 := z; clear z)); (try (apply ck hb1 (w.heap.size + 1) 0; (focus (go_simp; rfl)); intro z; (try clear c_1_0); have c_1_0 := z; clear z; (try (apply ck hb1 (w.heap.size + 1) 1; (focus (go_simp; rfl)); intro z; (try clear c_1_1); have c_1_1 := z; clear z)))))))); clear hle; (try (apply old_keep (w0 := w) (w := w1); (focus ((repeat (first | (with_reducible exact Up.refl _) | (with_reducible assumption) | (with_reducible refine Up.alloc ?_ _) | (with_reducible refine Up.drew ?_) | ((with_reducible refine Up.set ?_ ?_ _); rotate_left; focus (first | omega | (simp; done) | (simp; omega))) | (with_reducible refine Up.drewN ?_ _) | (with_reducible refine Up.call ?_ (by with_reducible assumption)))))); intro y z; (try clear hUp); (try clear hOld); have hUp := y; have hOld := z; clear y z)))))
    go_ret2
    refine RetX.mk (.error e0 : Except Nat Bool) ?_ rfl rfl
    (repeat (first | (with_reducible exact Up.refl _) | (with_reducible assumption) | (with_reducible refine Up.alloc ?_ _) | (with_reducible refine Up.drew ?_) | ((with_reducible refine Up.set ?_ ?_ _); rotate_left; focus (first | omega | (simp; done) | (simp; omega))) | (with_reducible refine Up.drewN ?_ _) | (with_reducible refine Up.call ?_ (by with_reducible assumption))))
  | ok x =>
    rw [isF_of h]
    obtain ⟨hs, hB, hl, hn⟩ := of_ok h
    have hx := next_bx hs hB hn
    have Hl := hid (show x.length = b.length from hx.2.trans hl.symm)
    have Hx3 := hid hx.1.few
    have H := hid h; clear h hs hB hl hn hx
    go_enter Tryd.func31, Tryd.ntmps31
    go_wp2_with (first
                        | ((go_at_call 26; (with_reducible refine (of_any _ _ _ s b _ _ _ _ (HY.out.up (by (repeat (first | (with_reducible exact Up.refl _) | (with_reducible assumption) | (with_reducible refine Up.alloc ?_ _) | (with_reducible refine Up.drew ?_) | ((with_reducible refine Up.set ?_ ?_ _); rotate_left; focus (first | omega | (simp; done) | (simp; omega))) | (with_reducible refine Up.drewN ?_ _) | (with_reducible refine Up.call ?_ (by with_reducible assumption)))))) (Hb.out.up (by (repeat (first | (with_reducible exact Up.refl _) | (with_reducible assumption) | (with_reducible refine Up.alloc ?_ _) | (with_reducible refine Up.drew ?_) | ((with_reducible refine Up.set ?_ ?_ _); rotate_left; focus (first | omega | (simp; done) | (simp; omega))) | (with_reducible refine Up.drewN ?_ _) | (with_reducible refine Up.call ?_ (by with_reducible assumption))))))).mono ?_); rintro e w1 ⟨x1, v1, hx1, rfl, hv1, hb1⟩ <;> (rw [H.out] at hx1; subst hx1; obtain ⟨A1, c1, rfl, hrd1, -, -⟩ := slNE_ok hv1; have Hrd1 := hid hrd1; clear hv1 hrd1)) <;> (have hle := Up.le hb1; (try simp only [World.size_alloc, World.size_setCell, World.size_drew, World.heap_drewN] at hle); (try (have _ : w.heap.size < w1.heap.size := (by omega); (try (apply fk hb1 (w.heap.size); (focus (go_simp; rfl)); (focus (intro o; go_simp)); intro z; (try clear f_0); have f_0 := z; clear z)); (try (apply ck hb1 (w.heap.size) 0; (focus (go_simp; rfl)); intro z; (try clear c_0_0); have c_0_0 := z; clear z; (try (apply ck hb1 (w.heap.size) 1; (focus (go_simp; rfl)); intro z; (try clear c_0_1); have c_0_1 := z; clear z)))); (try (have _ : w.heap.size + 1 < w1.heap.size := (by omega); (try (apply fk hb1 (w.heap.size + 1); (focus (go_simp; rfl)); (focus (intro o; go_simp)); intro z; (try clear f_1); have f_1 := z; clear z)); (try (apply ck hb1 (w.heap.size + 1) 0; (focus (go_simp; rfl)); intro z; (try clear c_1_0); have c_1_0 := z; clear z; (try (apply ck hb1 (w.heap.size + 1) 1; (focus (go_simp; rfl)); intro z; (try clear c_1_1); have c_1_1 := z; clear z)))))))); clear hle; (try (apply old_keep (w0 := w) (w := w1); (focus ((repeat (first | (with_reducible exact Up.refl _) | (with_reducible assumption) | (with_reducible refine Up.alloc ?_ _) | (with_reducible refine Up.drew ?_) | ((with_reducible refine Up.set ?_ ?_ _); rotate_left; focus (first | omega | (simp; done) | (simp; omega))) | (with_reducible refine Up.drewN ?_ _) | (with_reducible refine Up.call ?_ (by with_reducible assumption)))))); intro y z; (try clear hUp); (try clear hOld); have hUp := y; have hOld := z; clear y z))))
                        | ((go_at_call 84; (with_reducible refine (in_any _ _ x b _ _ _ (Hrd1.out.up (by clear hUp; (repeat (first | (with_reducible exact Up.refl _) | (with_reducible assumption) | (with_reducible refine Up.alloc ?_ _) | (with_reducible refine Up.drew ?_) | ((with_reducible refine Up.set ?_ ?_ _); rotate_left; focus (first | omega | (simp; done) | (simp; omega))) | (with_reducible refine Up.drewN ?_ _) | (with_reducible refine Up.call ?_ (by with_reducible assumption)))))) (Hb.out.up (by (repeat (first | (with_reducible exact Up.refl _) | (with_reducible assumption) | (with_reducible refine Up.alloc ?_ _) | (with_reducible refine Up.drew ?_) | ((with_reducible refine Up.set ?_ ?_ _); rotate_left; focus (first | omega | (simp; done) | (simp; omega))) | (with_reducible refine Up.drewN ?_ _) | (with_reducible refine Up.call ?_ (by with_reducible assumption)))))) Hl.out (by have := Hx3.out; omega)).mono ?_); rintro e w2 ⟨x2, hx2, rfl, hb2⟩ <;> (subst hx2)) <;> (have hle := Up.le hb2; (try simp only [World.size_alloc, World.size_setCell, World.size_drew, World.heap_drewN] at hle); (try (have _ : w.heap.size < w2.heap.size := (by omega); (try (apply fk hb2 (w.heap.size); (focus (go_simp; rfl)); (focus (intro o; go_simp)); intro z; (try clear f_0); have f_0 := z; clear z)); (try (apply ck hb2 (w.heap.size) 0; (focus (go_simp; rfl)); intro z; (try clear c_0_0); have c_0_0 := z; clear z; (try (apply ck hb2 (w.heap.size) 1; (focus (go_simp; rfl)); intro z; (try clear c_0_1); have c_0_1 := z; clear z)))); (try (have _ : w.heap.size + 1 < w2.heap.size := (by omega); (try (apply fk hb2 (w.heap.size + 1); (focus (go_simp; rfl)); (focus (intro o; go_simp)); intro z; (try clear f_1); have f_1 := z; clear z)); (try (apply ck hb2 (w.heap.size + 1) 0; (focus (go_simp; rfl)); intro z; (try clear c_1_0); have c_1_0 := z; clear z; (try (apply ck hb2 (w.heap.size + 1) 1; (focus (go_simp; rfl)); intro z; (try clear c_1_1); have c_1_1 := z; clear z)))))))); (try (have _ : w1.heap.size < w2.heap.size := (by omega); (try (apply fk hb2 (w1.heap.size); (focus (go_simp; rfl)); (focus (intro o; go_simp)); intro z; (try clear f1_0); have f1_0 := z; clear z)); (try (apply ck hb2 (w1.heap.size) 0; (focus (go_simp; rfl)); intro z; (try clear c1_0_0); have c1_0_0 := z; clear z; (try (apply ck hb2 (w1.heap.size) 1; (focus (go_simp; rfl)); intro z; (try clear c1_0_1); have c1_0_1 := z; clear z)))); (try (have _ : w1.heap.size + 1 < w2.heap.size := (by omega); (try (apply fk hb2 (w1.heap.size + 1); (focus (go_simp; rfl)); (focus (intro o; go_simp)); intro z; (try clear f1_1); have f1_1 := z; clear z)); (try (apply ck hb2 (w1.heap.size + 1) 0; (focus (go_simp; rfl)); intro z; (try clear c1_1_0); have c1_1_0 := z; clear z; (try (apply ck hb2 (w1.heap.size + 1) 1; (focus (go_simp; rfl)); intro z; (try clear c1_1_1); have c1_1_1 := z; clear z)))))))); clear hle; (try (apply old_keep (w0 := w) (w := w2); (focus ((repeat (first | (with_reducible exact Up.refl _) | (with_reducible assumption) | (with_reducible refine Up.alloc ?_ _) | (with_reducible refine Up.drew ?_) | ((with_reducible refine Up.set ?_ ?_ _); rotate_left; focus (first | omega | (simp; done) | (simp; omega))) | (with_reducible refine Up.drewN ?_ _) | (with_reducible refine Up.call ?_ (by with_reducible assumption)))))); intro y z; (try clear hUp); (try clear hOld); have hUp := y; have hOld := z; clear y z)))))
    all_goals
      go_ret2
      refine RetX.mk (.ok (inF x b) : Except Nat Bool) ?_ rfl rfl
      (repeat (first | (with_reducible exact Up.refl _) | (with_reducible assumption) | (with_reducible refine Up.alloc ?_ _) | (with_reducible refine Up.drew ?_) | ((with_reducible refine Up.set ?_ ?_ _); rotate_left; focus (first | omega | (simp; done) | (simp; omega))) | (with_reducible refine Up.drewN ?_ _) | (with_reducible refine Up.call ?_ (by with_reducible assumption))))
theorem widerF_bad {y : Int} {s : Sp} {b L : List Sp} (h : s.lo - y < -1000000000 ∨ 1000000000 < s.hi + y) : preS L (widerF y (s :: b)) = .error 4 := by
  unfold widerF; rw [if_pos h]; rfl
theorem widerF_good {y : Int} {s : Sp} {b L : List Sp} (h : ¬ (s.lo - y < -1000000000 ∨ 1000000000 < s.hi + y)) : preS L (widerF y (s :: b)) = preS (L ++ [⟨s.lo - y, s.hi + y⟩]) (widerF y b) := by
  conv => lhs; unfold widerF
  rw [if_neg h]
  cases widerF y b <;> simp [preS]
set_option maxRecDepth 100000 in
set_option maxHeartbeats 4000000 in
theorem wider_any (A : Option Addr) (b : List Sp) (c : Nat) (y : Int) (w : World) (hr : RdS w A b) (hB : ∀ s ∈ b, Rt s) (hm : b.length ≤ 1000) (h0 : 0 ≤ y) (h1 : y ≤ 1000000000) :
    Calls Tryd.prog 86 #[.slice A b.length c, .int .i64 y] w (RetR (slNE w.heap.size) (widerF y b) w) := by
  have Hr := hid hr; have HB := hid hB; have Hm := hid hm; have Hy0 := hid h0; have Hy1 := hid h1
  obtain ⟨i0, hi0, hz0, hz1, hz2⟩ := info_parts Tryd.infoSpan
  rw [← preS_nil (widerF y b)]
  clear hr hB hm h0 h1
  go_enter Tryd.func86, Tryd.ntmps86
  go_wp2
  go_loopw [6, 11] (fun v i wr => ∃ (k : Nat) (L : List Sp), k ≤ b.length ∧ i = .int .i64 k ∧ Hid (preS [] (widerF y b) = preS L (widerF y (b.drop k))) ∧ Hid (L.length = k) ∧ OwnS wr w.heap.size v L ∧ Up w wr) (fun _ i _ => b.length - (intOf i).toNat)
  case atStart => exact ⟨0, [], by omega, rfl, rfl, rfl, OwnS.nil _ _, Up.refl _⟩
  case round =>
    obtain ⟨k, L, hk, rfl, H, HL, hown, hU⟩ := hrel
    have gr := (bcell hU).1
    have hle := hU.le
    by_cases hlt : k < b.length
    · obtain ⟨b1, o1, rfl, lb, cc⟩ := (Hr.out).at (by omega)
      obtain ⟨q1, q2⟩ := cc k hlt
      have j1 := (gr _ _ lb).trans q1
      have j2 := (gr _ _ lb).trans q2
      have _ : b1 < wr.heap.size := by omega
      have Hdr := hid (sdrop b k hlt)
      have hRt := HB.out (b[k]?.getD ⟨0, 0⟩) (by rw [List.getElem?_eq_getElem hlt]; exact List.getElem_mem hlt)
      have Hlt := hid hlt
      have hdk : decide ((k : Int) < (b.length : Int)) = true := by simp; omega
      have hk0 : (0 : Int) ≤ (k : Int) := by omega
      have hkb : (k : Int) < (b.length : Int) := by omega
      have hk9 : (k : Int) < 1000 := by have := Hm.out; omega
      have HL4 := hid (show L.length ≤ 1000 by have := HL.out; have := Hm.out; omega)
      generalize b[k]?.getD ⟨0, 0⟩ = s at *
      obtain ⟨⟨a1, a2⟩, ⟨a3, a4⟩, a5⟩ := hRt
      have hb1 : -2000000000 ≤ s.lo - y := by have := Hy1.out; omega
      have hb2 : s.lo - y ≤ 2000000000 := by have := Hy0.out; omega
      have hb3 : -2000000000 ≤ s.hi + y := by have := Hy0.out; omega
      have hb4 : s.hi + y ≤ 2000000000 := by have := Hy1.out; omega
      have Hown := hid hown
      clear cc q1 q2 gr hlt hown a1 a2 a3 a4 a5
      by_cases hin : s.lo - y < -1000000000 ∨ 1000000000 < s.hi + y
      · have Hin := hid hin
        have hor : (decide (s.lo - y < -1000000000) = true) ∨ (decide (s.lo - y < -1000000000) = false ∧ decide (1000000000 < s.hi + y) = true) := by
          by_cases h : s.lo - y < -1000000000
          · exact .inl (decide_eq_true h)
          · exact .inr ⟨decide_eq_false h, decide_eq_true (by omega)⟩
        clear hin
        rcases hor with e1 | ⟨e1, e2⟩
        all_goals
          go_wp2
          go_ret2
          refine RetR.mk (.error 4) ?_ ?_ (rel := slNE _) rfl
          · (repeat (first | (with_reducible exact Up.refl _) | (with_reducible assumption) | (with_reducible refine Up.alloc ?_ _) | (with_reducible refine Up.drew ?_) | ((with_reducible refine Up.set ?_ ?_ _); rotate_left; focus (first | omega | (simp; done) | (simp; omega))) | (with_reducible refine Up.drewN ?_ _) | (with_reducible refine Up.call ?_ (by with_reducible assumption))))
          · rw [H.out, Hdr.out]; exact widerF_bad Hin.out
      · have Hin := hid hin
        have e1 : decide (s.lo - y < -1000000000) = false := decide_eq_false (by omega)
        have e2 : decide (1000000000 < s.hi + y) = false := decide_eq_false (by omega)
        clear hin
        go_wp2_with (at_builtin; go_loud (refine wpList_append_own_at _ rfl (.tmp 33) (.tmp 35) _ rfl w.heap.size 56 i0 (.agg #[.int .i64 0, .int .i64 0]) 2 16 Tryd.underlying23 hi0 hz0 hz1 hz2 rfl (by decide) _ _ _ rfl (Hown.out.up (by (repeat (first | (with_reducible exact Up.refl _) | (with_reducible assumption) | (with_reducible refine Up.alloc ?_ _) | (with_reducible refine Up.drew ?_) | ((with_reducible refine Up.set ?_ ?_ _); rotate_left; focus (first | omega | (simp; done) | (simp; omega))) | (with_reducible refine Up.drewN ?_ _) | (with_reducible refine Up.call ?_ (by with_reducible assumption)))))) ⟨wr.heap.size + 1, 0, none⟩ 1 1 [.int .i64 (s.lo - y), .int .i64 (s.hi + y)] rfl rfl (cell_two_at _ _ _ _ (by simp)) (by simp [Value.oneCell']) (by have := HL4.out; unfold maxLen; omega) (by have := HL4.out; omega) (by simp; omega) ?_); intro v8 w5 own8 g8 _ at8)
        go_roundw
        case rel =>
          refine ⟨k + 1, L ++ [⟨s.lo - y, s.hi + y⟩], by have := Hlt.out; omega, by go_num, ?_, ?_, OwnS.snoc own8, ?_⟩
          · show _ = _
            rw [H.out, Hdr.out]; exact widerF_good Hin.out
          · have := HL.out
            show _ = _
            simp; omega
          · refine Below.grown (a := w) (B := w.heap.size) ?_ g8 ?_ (fun j hj => (Hown.out.lt j hj).1)
            · (show Up w _; (repeat (first | (with_reducible exact Up.refl _) | (with_reducible assumption) | (with_reducible refine Up.alloc ?_ _) | (with_reducible refine Up.drew ?_) | ((with_reducible refine Up.set ?_ ?_ _); rotate_left; focus (first | omega | (simp; done) | (simp; omega))) | (with_reducible refine Up.drewN ?_ _) | (with_reducible refine Up.call ?_ (by with_reducible assumption)))))
            · simp; omega
        case measure => have := Hlt.out; simp [intOf]; omega
    · obtain rfl : k = b.length := by omega
      obtain ⟨A', c', hv⟩ := hown.shape
      subst hv
      have Hown := hid hown
      clear hown gr
      go_wp2
      go_ret2
      refine RetR.mk (.ok L) hU ?_ (rel := slNE _) ?_
      · rw [H.out, List.drop_length]
        simp [widerF, preS]
      · obtain ⟨A2, c2, e1, e2, e3, e4⟩ := Hown.out.rdE
        exact ⟨A2, c2, e1, e2, e3, e4⟩
end Go.Proofs.YteoomjenekkomaaDoor
