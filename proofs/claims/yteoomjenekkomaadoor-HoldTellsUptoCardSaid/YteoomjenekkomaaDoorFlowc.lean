/- The walk of flow.Wide. -/
import Derived.Test.YteoomjenekkomaaDoorFlow

set_option linter.unusedVariables false
set_option linter.unusedSimpArgs false
namespace Go.Proofs.YteoomjenekkomaaDoor
open Go.RowKit

theorem cell_one_at (w : World) (x : Value) (t : TypeId) {n : Nat} (hn : n = w.heap.size) : ∀ j u, [x][j]? = some u → (w.alloc (.cells #[x] t)).cell? ((⟨n, 0, none⟩ : Addr).add j) = some u := by
  subst hn; exact cell_one_new _ _ _
theorem run_all {s : Sy} {b : List Sp} {n : Int} {l : List (List Sp)} (h : runF s b n = .ok l) : l.length ≤ 21 ∧ ∀ k, k < l.length → Bx (l[k]?.getD []) := by
  obtain ⟨h0, h20, k1, k2⟩ := run_parts h
  obtain ⟨hs, hb, hl⟩ := ready_good k1
  have := run_len _ b l k2
  exact ⟨by omega, fun k hk => (run_bx hs _ b l hb hl k2 _ (mem_getD hk)).1⟩
theorem wide_bd {b : List Sp} (h : Bx b) : widestF b < b.length ∧ Rt (b[widestF b]?.getD ⟨0, 0⟩) := by
  have h1 := widestF_lt h.pos
  exact ⟨h1, h.spans _ (mem_at h1)⟩
theorem take_map {l : List (List Sp)} {k : Nat} (h : k < l.length) : (l.take (k + 1)).map wideF1 = (l.take k).map wideF1 ++ [wideF1 (l[k]?.getD [])] := by
  rw [List.take_succ_eq_append_getElem h, List.map_append, List.getElem?_eq_getElem h]; rfl
set_option maxRecDepth 100000 in
set_option maxHeartbeats 4000000 in
theorem wide_any (A B C : Option Addr) (s : Sy) (b : List Sp) (n : Int) (c d e : Nat) (w : World) (hY : RY w A B s) (hb : RdS w C b) :
    Calls Tryd.prog 52 #[.agg #[.slice A s.next.length c, .slice B s.push.length d], .slice C b.length e, .int .i64 n] w (RetR (ilNE w.heap.size) (wideF s b n) w) := by
  have HY := hid hY; have Hb := hid hb; clear hY hb
  obtain ⟨i0, hi0, hz0, hz1, hz2⟩ := info_parts Tryd.infoInt
  cases hr : runF s b n with
  | error e0 =>
    have hw : wideF s b n = .error e0 := by unfold wideF; rw [hr]
    rw [hw]
    have Hr := hid hr; clear hr hw
    go_enter Tryd.func52, Tryd.ntmps52
    go_wp2_with (first
                        | ((go_at_call 50; (with_reducible refine (run_any _ _ _ s b n _ _ _ _ (HY.out.up (by (repeat (first | (with_reducible exact Up.refl _) | (with_reducible assumption) | (with_reducible refine Up.alloc ?_ _) | (with_reducible refine Up.drew ?_) | ((with_reducible refine Up.set ?_ ?_ _); rotate_left; focus (first | omega | (simp; done) | (simp; omega))) | (with_reducible refine Up.drewN ?_ _) | (with_reducible refine Up.call ?_ (by with_reducible assumption)))))) (Hb.out.up (by (repeat (first | (with_reducible exact Up.refl _) | (with_reducible assumption) | (with_reducible refine Up.alloc ?_ _) | (with_reducible refine Up.drew ?_) | ((with_reducible refine Up.set ?_ ?_ _); rotate_left; focus (first | omega | (simp; done) | (simp; omega))) | (with_reducible refine Up.drewN ?_ _) | (with_reducible refine Up.call ?_ (by with_reducible assumption))))))).mono ?_); rintro e w1 ⟨x1, v1, hx1, rfl, hv1, hb1⟩ <;> (rw [Hr.out] at hx1; subst hx1; obtain rfl := rlNE_error hv1; clear hv1)) <;> (have hle := Up.le hb1; (try simp only [World.size_alloc, World.size_setCell, World.size_drew, World.heap_drewN] at hle); (try (have _ : w.heap.size < w1.heap.size := (by omega); (try (apply fk hb1 (w.heap.size); (focus (go_simp; rfl)); (focus (intro o; go_simp)); intro z; (try clear f_0); have f_0 := z; clear z)); (try (apply ck hb1 (w.heap.size) 0; (focus (go_simp; rfl)); intro z; (try clear c_0_0); have c_0_0 := z; clear z; (try (apply ck hb1 (w.heap.size) 1; (focus (go_simp; rfl)); intro z; (try clear c_0_1); have c_0_1 := z; clear z)))); (try (have _ : w.heap.size + 1 < w1.heap.size := (by omega); (try (apply fk hb1 (w.heap.size + 1); (focus (go_simp; rfl)); (focus (intro o; go_simp)); intro z; (try clear f_1); have f_1 := z; clear z)); (try (apply ck hb1 (w.heap.size + 1) 0; (focus (go_simp; rfl)); intro z; (try clear c_1_0); have c_1_0 := z; clear z; (try (apply ck hb1 (w.heap.size + 1) 1; (focus (go_simp; rfl)); intro z; (try clear c_1_1); have c_1_1 := z; clear z)))))))); clear hle; (try (apply old_keep (w0 := w) (w := w1); (focus ((repeat (first | (with_reducible exact Up.refl _) | (with_reducible assumption) | (with_reducible refine Up.alloc ?_ _) | (with_reducible refine Up.drew ?_) | ((with_reducible refine Up.set ?_ ?_ _); rotate_left; focus (first | omega | (simp; done) | (simp; omega))) | (with_reducible refine Up.drewN ?_ _) | (with_reducible refine Up.call ?_ (by with_reducible assumption)))))); intro y z; (try clear hUp); (try clear hOld); have hUp := y; have hOld := z; clear y z)))))
    go_ret2
    refine RetR.mk (.error e0) ?_ rfl (rel := ilNE _) rfl
    (repeat (first | (with_reducible exact Up.refl _) | (with_reducible assumption) | (with_reducible refine Up.alloc ?_ _) | (with_reducible refine Up.drew ?_) | ((with_reducible refine Up.set ?_ ?_ _); rotate_left; focus (first | omega | (simp; done) | (simp; omega))) | (with_reducible refine Up.drewN ?_ _) | (with_reducible refine Up.call ?_ (by with_reducible assumption))))
  | ok l =>
    have hw : wideF s b n = .ok (l.map wideF1) := by unfold wideF; rw [hr]
    rw [hw]
    have Hall := hid (run_all hr)
    have Hr := hid hr; clear hr hw
    go_enter Tryd.func52, Tryd.ntmps52
    go_wp2_with (first
                        | ((go_at_call 50; (with_reducible refine (run_any _ _ _ s b n _ _ _ _ (HY.out.up (by (repeat (first | (with_reducible exact Up.refl _) | (with_reducible assumption) | (with_reducible refine Up.alloc ?_ _) | (with_reducible refine Up.drew ?_) | ((with_reducible refine Up.set ?_ ?_ _); rotate_left; focus (first | omega | (simp; done) | (simp; omega))) | (with_reducible refine Up.drewN ?_ _) | (with_reducible refine Up.call ?_ (by with_reducible assumption)))))) (Hb.out.up (by (repeat (first | (with_reducible exact Up.refl _) | (with_reducible assumption) | (with_reducible refine Up.alloc ?_ _) | (with_reducible refine Up.drew ?_) | ((with_reducible refine Up.set ?_ ?_ _); rotate_left; focus (first | omega | (simp; done) | (simp; omega))) | (with_reducible refine Up.drewN ?_ _) | (with_reducible refine Up.call ?_ (by with_reducible assumption))))))).mono ?_); rintro e w1 ⟨x1, v1, hx1, rfl, hv1, hb1⟩ <;> (rw [Hr.out] at hx1; subst hx1; obtain ⟨A2, c2, rfl, hrd2, hc2⟩ := rlNE_ok hv1; have Hrd2 := hid hrd2; clear hv1 hrd2)) <;> (have hle := Up.le hb1; (try simp only [World.size_alloc, World.size_setCell, World.size_drew, World.heap_drewN] at hle); (try (have _ : w.heap.size < w1.heap.size := (by omega); (try (apply fk hb1 (w.heap.size); (focus (go_simp; rfl)); (focus (intro o; go_simp)); intro z; (try clear f_0); have f_0 := z; clear z)); (try (apply ck hb1 (w.heap.size) 0; (focus (go_simp; rfl)); intro z; (try clear c_0_0); have c_0_0 := z; clear z; (try (apply ck hb1 (w.heap.size) 1; (focus (go_simp; rfl)); intro z; (try clear c_0_1); have c_0_1 := z; clear z)))); (try (have _ : w.heap.size + 1 < w1.heap.size := (by omega); (try (apply fk hb1 (w.heap.size + 1); (focus (go_simp; rfl)); (focus (intro o; go_simp)); intro z; (try clear f_1); have f_1 := z; clear z)); (try (apply ck hb1 (w.heap.size + 1) 0; (focus (go_simp; rfl)); intro z; (try clear c_1_0); have c_1_0 := z; clear z; (try (apply ck hb1 (w.heap.size + 1) 1; (focus (go_simp; rfl)); intro z; (try clear c_1_1); have c_1_1 := z; clear z)))))))); clear hle; (try (apply old_keep (w0 := w) (w := w1); (focus ((repeat (first | (with_reducible exact Up.refl _) | (with_reducible assumption) | (with_reducible refine Up.alloc ?_ _) | (with_reducible refine Up.drew ?_) | ((with_reducible refine Up.set ?_ ?_ _); rotate_left; focus (first | omega | (simp; done) | (simp; omega))) | (with_reducible refine Up.drewN ?_ _) | (with_reducible refine Up.call ?_ (by with_reducible assumption)))))); intro y z; (try clear hUp); (try clear hOld); have hUp := y; have hOld := z; clear y z)))))
    have HU1 := hid (show Up w w1 by (repeat (first | (with_reducible exact Up.refl _) | (with_reducible assumption) | (with_reducible refine Up.alloc ?_ _) | (with_reducible refine Up.drew ?_) | ((with_reducible refine Up.set ?_ ?_ _); rotate_left; focus (first | omega | (simp; done) | (simp; omega))) | (with_reducible refine Up.drewN ?_ _) | (with_reducible refine Up.call ?_ (by with_reducible assumption)))))
    go_loopw [10, 26] (fun v i wr => ∃ k : Nat, k ≤ l.length ∧ i = .int .i64 k ∧ OwnI wr w1.heap.size v ((l.take k).map wideF1) ∧ Up w1 wr) (fun _ i _ => l.length - (intOf i).toNat)
    case atStart => exact ⟨0, by omega, rfl, OwnI.nil _ _, Up.refl _⟩
    case round =>
      obtain ⟨k, hk, rfl, hown, hU⟩ := hrel
      have gr := (bcell hU).1
      have hle := hU.le
      by_cases hlt : k < l.length
      · obtain ⟨b1, o1, rfl, lb, cc⟩ := (Hrd2.out).at (by omega)
        obtain ⟨A3, c3, q1, q2, q3⟩ := cc k hlt
        have j1 := (gr _ _ lb).trans q1
        have _ : b1 < wr.heap.size := by omega
        have HBk := hid (Hall.out.2 k hlt)
        have Htk := hid (take_map hlt)
        have Hlt := hid hlt
        have HL4 := hid (show ((l.take k).map wideF1).length ≤ 21 by have := Hall.out.1; simp; omega)
        have hdk : decide ((k : Int) < (l.length : Int)) = true := by simp; omega
        have hk0 : (0 : Int) ≤ (k : Int) := by omega
        have hkl : (k : Int) < (l.length : Int) := by omega
        have hk9 : (k : Int) < 21 := by have := Hall.out.1; omega
        generalize l[k]?.getD [] = x at *
        obtain ⟨w1', w2'⟩ := wide_bd HBk.out
        obtain ⟨b3, o3, rfl, lb3, cc3⟩ := q3.at (by omega)
        obtain ⟨p1, p2⟩ := cc3 _ w1'
        have j2 := (gr _ _ lb3).trans p1
        have j3 := (gr _ _ lb3).trans p2
        have _ : b3 < wr.heap.size := by omega
        have Hq3 := hid q3
        have hwi : ((widestF x : Nat) : Int) < (x.length : Int) := by omega
        have hwd : x[widestF x]?.getD ⟨0, 0⟩ = x[widestF x]?.getD ⟨0, 0⟩ := rfl
        have Hw1 := hid (show wideF1 x = (x[widestF x]?.getD ⟨0, 0⟩).hi - (x[widestF x]?.getD ⟨0, 0⟩).lo from rfl)
        have Hwx := hid (show RetX intV (widestF x : Int) = RetX intV (widestF x : Int) from rfl)
        have hx3 : x.length ≤ 3 := HBk.out.few
        generalize x[widestF x]?.getD ⟨0, 0⟩ = sp at *
        obtain ⟨⟨a1, a2⟩, ⟨a3, a4⟩, a5⟩ := w2'
        have hb1' : -2000000000 ≤ sp.hi - sp.lo := by omega
        have hb2' : sp.hi - sp.lo ≤ 2000000000 := by omega
        have Hwd := hid (show ((widestF x : Nat) : Int) = ((widestF x : Nat) : Int) from rfl)
        have Hown := hid hown
        clear hown gr hlt cc q1 q2 q3 cc3 p1 p2 a1 a2 a3 a4 a5 hwd
        go_wp2_with (first
                        | ((go_at_call 95; refine (widest_any _ x _ _ (Hq3.out.up (by (repeat (first | (with_reducible exact Up.refl _) | (with_reducible assumption) | (with_reducible refine Up.alloc ?_ _) | (with_reducible refine Up.drew ?_) | ((with_reducible refine Up.set ?_ ?_ _); rotate_left; focus (first | omega | (simp; done) | (simp; omega))) | (with_reducible refine Up.drewN ?_ _) | (with_reducible refine Up.call ?_ (by with_reducible assumption)))))) HBk.out.pos (by have := HBk.out.few; omega) HBk.out.spans).mono ?_; rintro e w4 ⟨x4, rfl, rfl, hb4⟩); obtain ⟨hc4, hf4⟩ := bcell hb4; have HO := hid (Hown.out.up hb4); (have hle4 := Up.le hb4))
                        | (at_builtin; refine wpList_append_own_at _ rfl (.tmp 35) (.tmp 41) _ rfl w1.heap.size 3 i0 (.int .i64 0) 1 8 Tryd.underlying43 hi0 hz0 hz1 hz2 rfl (by decide) _ _ _ rfl (HO.out.up (by (repeat (first | (with_reducible exact Up.refl _) | (with_reducible assumption) | (with_reducible refine Up.alloc ?_ _) | (with_reducible refine Up.drew ?_) | ((with_reducible refine Up.set ?_ ?_ _); rotate_left; focus (first | omega | (simp; done) | (simp; omega))) | (with_reducible refine Up.drewN ?_ _) | (with_reducible refine Up.call ?_ (by with_reducible assumption)))))) ⟨w4.heap.size + 1, 0, none⟩ 1 1 [.int .i64 (sp.hi - sp.lo)] rfl rfl (cell_one_at _ _ _ (by simp)) (by simp [Value.oneCell']) (by have := HL4.out; unfold maxLen; omega) (by have := HL4.out; omega) (by have := Up.le hb4; simp; omega) ?_; intro v8 w5 own8 g8 _ at8))
        go_roundw
        case rel =>
          refine ⟨k + 1, by have := Hlt.out; omega, by go_num, ?_, ?_⟩
          · rw [Htk.out, Hw1.out]; exact OwnI.snoc own8
          · refine Below.grown (a := w1) (B := w1.heap.size) ?_ g8 ?_ (fun j hj => (Hown.out.lt j hj).1)
            · (show Up w1 _; (repeat (first | (with_reducible exact Up.refl _) | (with_reducible assumption) | (with_reducible refine Up.alloc ?_ _) | (with_reducible refine Up.drew ?_) | ((with_reducible refine Up.set ?_ ?_ _); rotate_left; focus (first | omega | (simp; done) | (simp; omega))) | (with_reducible refine Up.drewN ?_ _) | (with_reducible refine Up.call ?_ (by with_reducible assumption)))))
            · have := Up.le hb4
              simp; omega
        case measure => have := Hlt.out; simp [intOf]; omega
      · obtain rfl : k = l.length := by omega
        rw [List.take_length] at hown
        obtain ⟨A', c', hv⟩ := hown.shape
        subst hv
        have Hown := hid hown
        clear hown gr
        go_wp2
        go_ret2
        refine RetR.mk (.ok (l.map wideF1)) (HU1.out.call hU) rfl (rel := ilNE _) ?_
        obtain ⟨A2, c2, e1, e2, e3, e4⟩ := Hown.out.rdE
        exact ⟨A2, c2, e1, e2, e3, fun b o e => ⟨by have := (e4 b o e).1; have := HU1.out.le; omega, (e4 b o e).2⟩⟩
end Go.Proofs.YteoomjenekkomaaDoor
