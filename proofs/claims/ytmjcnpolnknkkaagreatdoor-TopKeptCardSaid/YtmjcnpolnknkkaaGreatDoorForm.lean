/- The walks of package form: term, Check. The walk of form.Check. -/
import Derived.Test.YtmjcnpolnknkkaaGreatDoorBase
import Derived.Test.YtmjcnpolnknkkaaGreatDoorPower
import Derived.LoopN
set_option linter.unusedVariables false
set_option linter.unusedSimpArgs false
namespace Go.Proofs.YtmjcnpolnknkkaaGreatDoor
open Go.RowKit

theorem Tryz.infoInt3 : (Tryz.prog.info? 3).map (fun i => (i.zero, i.size, i.bytes)) = some (some (.int .i64 0), 1, 8) := by kernel_rfl
theorem Tryz.idx0 (a b c : Int) (w : World) : (Instr.index 163 (.agg #[.int .i64 a, .int .i64 b, .int .i64 c]) (.int .i64 0)).run Tryz.prog w = .ok (.int .i64 a) w := by
  obtain ⟨i0, hi0, hz0, hz1, hz2⟩ := info_parts Tryz.infoInt3
  simp [Instr.index, run_underlying Tryz.underlying163, asIntOf, go_sem, part, sizeOf, typeInfo, hi0, hz1]
theorem Tryz.idx1 (a b c : Int) (w : World) : (Instr.index 163 (.agg #[.int .i64 a, .int .i64 b, .int .i64 c]) (.int .i64 1)).run Tryz.prog w = .ok (.int .i64 b) w := by
  obtain ⟨i0, hi0, hz0, hz1, hz2⟩ := info_parts Tryz.infoInt3
  simp [Instr.index, run_underlying Tryz.underlying163, asIntOf, go_sem, part, sizeOf, typeInfo, hi0, hz1]
theorem Tryz.idx2 (a b c : Int) (w : World) : (Instr.index 163 (.agg #[.int .i64 a, .int .i64 b, .int .i64 c]) (.int .i64 2)).run Tryz.prog w = .ok (.int .i64 c) w := by
  obtain ⟨i0, hi0, hz0, hz1, hz2⟩ := info_parts Tryz.infoInt3
  simp [Instr.index, run_underlying Tryz.underlying163, asIntOf, go_sem, part, sizeOf, typeInfo, hi0, hz1]
attribute [go_sem] Tryz.idx0 Tryz.idx1 Tryz.idx2
theorem sides_any (n : Int) (w : World) : Calls Tryz.prog 71 #[.int .i64 n] w (RetX boolV (decide (1 ≤ n ∧ n ≤ 3)) w) := by
  by_cases h1 : 1 ≤ n
  · have d1 : decide (1 ≤ n) = true := by simpa using h1
    by_cases h2 : n ≤ 3
    · have d2 : decide (n ≤ 3) = true := by simpa using h2
      have hr : decide (1 ≤ n ∧ n ≤ 3) = true := by simp; omega
      rw [hr]
      clear hr h1 h2
      go_enter Tryz.func71, Tryz.ntmps71
      go_wp2
      go_ret
      exact RetX.mk true (Up.refl _) rfl rfl
    · have d2 : decide (n ≤ 3) = false := by simpa using h2
      have hr : decide (1 ≤ n ∧ n ≤ 3) = false := by simp; omega
      rw [hr]
      clear hr h1 h2
      go_enter Tryz.func71, Tryz.ntmps71
      go_wp2
      go_ret
      exact RetX.mk false (Up.refl _) rfl rfl
  · have d1 : decide (1 ≤ n) = false := by simpa using h1
    have hr : decide (1 ≤ n ∧ n ≤ 3) = false := by simp; omega
    rw [hr]
    clear hr h1
    go_enter Tryz.func71, Tryz.ntmps71
    go_wp2
    go_ret
    exact RetX.mk false (Up.refl _) rfl rfl
theorem term1_any (n : Int) (w : World) : Calls Tryz.prog 209 #[.int .i64 n] w fun e w' => e = .returned (.bool (decide (0 < n))) ∧ w = w' := by
  go_enter Tryz.func209, Tryz.ntmps209
  go_wp2
  go_ret
  exact ⟨rfl, rfl⟩
theorem tc1 {t : Tm} {k : Nat} (hM : M t.by_) (h : t.t0 < 0 ∨ 3 < t.t0 ∨ t.t1 < 0 ∨ 3 < t.t1 ∨ t.t2 < 0 ∨ 3 < t.t2 ∨ 3 < t.t0 + t.t1 + t.t2) : tcheckF t k = some 1 := by
  unfold tcheckF
  rw [if_neg (fun h => h hM)]
  split
  · rfl
  · rw [if_pos (by omega)]
theorem tc3 {t : Tm} {k : Nat} (hM : M t.by_) (h : 0 ≤ t.t0 ∧ t.t0 ≤ 3 ∧ 0 ≤ t.t1 ∧ t.t1 ≤ 3 ∧ 0 ≤ t.t2 ∧ t.t2 ≤ 3 ∧ t.t0 + t.t1 + t.t2 ≤ 3) (hs : (k ≤ 1 ∧ 0 < t.t1) ∨ (k ≤ 2 ∧ 0 < t.t2)) : tcheckF t k = some 3 := by
  unfold tcheckF
  rw [if_neg (fun h => h hM), if_neg (by omega), if_neg (by omega), if_pos hs]
theorem tc0 {t : Tm} {k : Nat} (hM : M t.by_) (h : 0 ≤ t.t0 ∧ t.t0 ≤ 3 ∧ 0 ≤ t.t1 ∧ t.t1 ≤ 3 ∧ 0 ≤ t.t2 ∧ t.t2 ≤ 3 ∧ t.t0 + t.t1 + t.t2 ≤ 3) (hs : ¬ ((k ≤ 1 ∧ 0 < t.t1) ∨ (k ≤ 2 ∧ 0 < t.t2))) : tcheckF t k = none := by
  unfold tcheckF
  rw [if_neg (fun h => h hM), if_neg (by omega), if_neg (by omega), if_neg hs]
theorem rdi23 {W : World} {g : Nat} {a b : Int} (ha : W.cell? ⟨g, 2, none⟩ = some (.int .i64 a)) (hb : W.cell? ⟨g, 3, none⟩ = some (.int .i64 b)) : RdI W (some ⟨g, 2, none⟩) [a, b] := fun _ =>
  ⟨g, 2, rfl, World.block_lt_of_cell? W _ ha, fun k hk => by match k, hk with | 0, _ => exact ha | 1, _ => exact hb⟩
theorem rdi_3 {W : World} {g : Nat} {a : Int} (ha : W.cell? ⟨g, 3, none⟩ = some (.int .i64 a)) : RdI W (some ⟨g, 3, none⟩) [a] := fun _ =>
  ⟨g, 3, rfl, World.block_lt_of_cell? W _ ha, fun k hk => by match k, hk with | 0, _ => exact ha⟩
set_option maxRecDepth 100000 in
set_option maxHeartbeats 4000000 in
theorem term_any (t : Tm) (sides : Nat) (w : World) (h1 : 1 ≤ sides) (h3 : sides ≤ 3) :
    Calls Tryz.prog 190 #[.agg #[.int .i64 t.by_, .int .i64 t.t0, .int .i64 t.t1, .int .i64 t.t2], .int .i64 sides] w (RetX errV (tcheckF t sides) w) := by
  have hen : ∀ args w, (callFunc 209 args).run Tryz.prog w = .ok (.enter 209 args) w := enters_of Tryz.func209 (by kernel_rfl) rfl
  have Hc := hid (fun A l c W (hl : l.length ≤ 1000) (hr : RdI W A l) => containsFunc_any 209 hen (fun n => decide (0 < n)) A l c W hl hr (fun n W _ => term1_any n W))
  have HT := hid (show ∀ e, tcheckF t sides = e → tcheckF t sides = e from fun _ h => h)
  clear HT
  cases hm : mayB t.by_ with
  | false =>
    have hr : tcheckF t sides = some 1 := by unfold tcheckF; rw [if_pos (mayB_false.1 hm)]
    rw [hr]
    clear hr
    go_enter Tryz.func190, Tryz.ntmps190
    go_wp2_with (first
                        | (go_at_call 39; refine (may_any _ _).mono ?_; rintro e w' ⟨rfl, rfl⟩))
    all_goals
      go_ret
      refine RetX.mk (some 1) ?_ rfl rfl
      (repeat (first | (with_reducible exact Up.refl _) | (with_reducible assumption) | (with_reducible refine Up.alloc ?_ _) | (with_reducible refine Up.drew ?_) | ((with_reducible refine Up.set ?_ ?_ _); rotate_left; focus (first | omega | (simp; done) | (simp; omega))) | (with_reducible refine Up.drewN ?_ _) | (with_reducible refine Up.call ?_ (by with_reducible assumption))))
  | true =>
    have hM := mayB_true.1 hm
    have HM := hid hM
    have hs : sides = 1 ∨ sides = 2 ∨ sides = 3 := by omega
    clear hM h1 h3
    rcases hs with rfl | rfl | rfl
    · go_enter Tryz.func190, Tryz.ntmps190
      go_wp2_with (first
                        | (go_at_call 39; refine (may_any _ _).mono ?_; rintro e w' ⟨rfl, rfl⟩))
      refine wp_loop_rounds 4 ?_
      repeat any_goals (rw [rounds_succ]; go_wp2_with (go_at_call 183; refine (Hc.out _ [t.t1, t.t2] _ _ (by simp) (rdi23 (by go_simp) (by go_simp))).mono ?_; rintro e w' ⟨rfl, rfl⟩))
      all_goals
        go_ret
        first
          | (refine RetX.mk (some 1) ?_ ?_ rfl; rotate_left; (focus (refine tc1 HM.out ?_; omega)))
          | (refine RetX.mk (some 3) ?_ ?_ rfl; rotate_left; (focus (refine tc3 HM.out ?_ ?_ <;> omega)))
          | (refine RetX.mk none ?_ ?_ rfl; rotate_left; (focus (refine tc0 HM.out ?_ ?_ <;> omega)))
        (repeat (first | (with_reducible exact Up.refl _) | (with_reducible assumption) | (with_reducible refine Up.alloc ?_ _) | (with_reducible refine Up.drew ?_) | ((with_reducible refine Up.set ?_ ?_ _); rotate_left; focus (first | omega | (simp; done) | (simp; omega))) | (with_reducible refine Up.drewN ?_ _) | (with_reducible refine Up.call ?_ (by with_reducible assumption))))
    · go_enter Tryz.func190, Tryz.ntmps190
      go_wp2_with (first
                        | (go_at_call 39; refine (may_any _ _).mono ?_; rintro e w' ⟨rfl, rfl⟩))
      refine wp_loop_rounds 4 ?_
      repeat any_goals (rw [rounds_succ]; go_wp2_with (go_at_call 183; refine (Hc.out _ [t.t2] _ _ (by simp) (rdi_3 (by go_simp))).mono ?_; rintro e w' ⟨rfl, rfl⟩))
      all_goals
        go_ret
        first
          | (refine RetX.mk (some 1) ?_ ?_ rfl; rotate_left; (focus (refine tc1 HM.out ?_; omega)))
          | (refine RetX.mk (some 3) ?_ ?_ rfl; rotate_left; (focus (refine tc3 HM.out ?_ ?_ <;> omega)))
          | (refine RetX.mk none ?_ ?_ rfl; rotate_left; (focus (refine tc0 HM.out ?_ ?_ <;> omega)))
        (repeat (first | (with_reducible exact Up.refl _) | (with_reducible assumption) | (with_reducible refine Up.alloc ?_ _) | (with_reducible refine Up.drew ?_) | ((with_reducible refine Up.set ?_ ?_ _); rotate_left; focus (first | omega | (simp; done) | (simp; omega))) | (with_reducible refine Up.drewN ?_ _) | (with_reducible refine Up.call ?_ (by with_reducible assumption))))
    · go_enter Tryz.func190, Tryz.ntmps190
      go_wp2_with (first
                        | (go_at_call 39; refine (may_any _ _).mono ?_; rintro e w' ⟨rfl, rfl⟩))
      refine wp_loop_rounds 4 ?_
      repeat any_goals (rw [rounds_succ]; go_wp2_with (go_at_call 183; refine (Hc.out _ [] _ _ (by simp) (RdI.nil _ _)).mono ?_; rintro e w' ⟨rfl, rfl⟩))
      all_goals
        go_ret
        first
          | (refine RetX.mk (some 1) ?_ ?_ rfl; rotate_left; (focus (refine tc1 HM.out ?_; omega)))
          | (refine RetX.mk (some 3) ?_ ?_ rfl; rotate_left; (focus (refine tc3 HM.out ?_ ?_ <;> omega)))
          | (refine RetX.mk none ?_ ?_ rfl; rotate_left; (focus (refine tc0 HM.out ?_ ?_ <;> omega)))
        (repeat (first | (with_reducible exact Up.refl _) | (with_reducible assumption) | (with_reducible refine Up.alloc ?_ _) | (with_reducible refine Up.drew ?_) | ((with_reducible refine Up.set ?_ ?_ _); rotate_left; focus (first | omega | (simp; done) | (simp; omega))) | (with_reducible refine Up.drewN ?_ _) | (with_reducible refine Up.call ?_ (by with_reducible assumption))))
end Go.Proofs.YtmjcnpolnknkkaaGreatDoor

namespace Go.Proofs.YtmjcnpolnknkkaaGreatDoor
open Go.RowKit

theorem fb_some {k : Nat} {t : Tm} {l : List Tm} {e : Nat} (h : tcheckF t k = some e) : firstBadT k (t :: l) = some e := by unfold firstBadT; rw [h]
theorem fb_none {k : Nat} {t : Tm} {l : List Tm} (h : tcheckF t k = none) : firstBadT k (t :: l) = firstBadT k l := by
  conv => lhs; unfold firstBadT
  rw [h]
theorem tdrop (l : List Tm) (k : Nat) (h : k < l.length) : l.drop k = (l[k]?.getD default) :: l.drop (k + 1) := by
  rw [List.drop_eq_getElem_cons h, List.getElem?_eq_getElem h]; rfl
set_option maxRecDepth 100000 in
set_option maxHeartbeats 2000000 in
theorem fcheck_any (A : Option Addr) (f : List Tm) (c : Nat) (sides : Int) (w : World) (hr : RdT w A f) :
    Calls Tryz.prog 149 #[.slice A f.length c, .int .i64 sides] w (RetX errV (fcheckF f sides) w) := by
  by_cases hs : 1 ≤ sides ∧ sides ≤ 3
  · have Hd := hid (decide_eq_true hs)
    obtain ⟨n, rfl⟩ : ∃ n : Nat, sides = (n : Int) := ⟨sides.toNat, by omega⟩
    by_cases h6 : 6 < f.length
    · have hrr : fcheckF f (n : Int) = some 4 := by unfold fcheckF; rw [if_neg (by omega), if_pos h6]
      rw [hrr]
      have d6 : decide ((6 : Int) < (f.length : Int)) = true := by simp; omega
      clear hrr hr hs h6
      go_enter Tryz.func149, Tryz.ntmps149
      go_wp2_with (first
                        | ((go_at_call 71; (with_reducible refine (sides_any _ _).mono ?_); rintro e w1 ⟨x1, hx1, rfl, hb1⟩ <;> (rw [Hd.out] at hx1; subst hx1)) <;> (have hle := Up.le hb1; (try simp only [World.size_alloc, World.size_setCell, World.size_drew, World.heap_drewN] at hle); (try (have _ : w.heap.size < w1.heap.size := (by omega); (try (apply fk hb1 (w.heap.size); (focus (go_simp; rfl)); (focus (intro o; go_simp)); intro z; (try clear f_0); have f_0 := z; clear z)); (try (apply ck hb1 (w.heap.size) 0; (focus (go_simp; rfl)); intro z; (try clear c_0_0); have c_0_0 := z; clear z; (try (apply ck hb1 (w.heap.size) 1; (focus (go_simp; rfl)); intro z; (try clear c_0_1); have c_0_1 := z; clear z)))); (try (have _ : w.heap.size + 1 < w1.heap.size := (by omega); (try (apply fk hb1 (w.heap.size + 1); (focus (go_simp; rfl)); (focus (intro o; go_simp)); intro z; (try clear f_1); have f_1 := z; clear z)); (try (apply ck hb1 (w.heap.size + 1) 0; (focus (go_simp; rfl)); intro z; (try clear c_1_0); have c_1_0 := z; clear z; (try (apply ck hb1 (w.heap.size + 1) 1; (focus (go_simp; rfl)); intro z; (try clear c_1_1); have c_1_1 := z; clear z)))); (try (have _ : w.heap.size + 1 + 1 < w1.heap.size := (by omega); (try (apply fk hb1 (w.heap.size + 1 + 1); (focus (go_simp; rfl)); (focus (intro o; go_simp)); intro z; (try clear f_2); have f_2 := z; clear z)); (try (apply ck hb1 (w.heap.size + 1 + 1) 0; (focus (go_simp; rfl)); intro z; (try clear c_2_0); have c_2_0 := z; clear z; (try (apply ck hb1 (w.heap.size + 1 + 1) 1; (focus (go_simp; rfl)); intro z; (try clear c_2_1); have c_2_1 := z; clear z)))); (try (have _ : w.heap.size + 1 + 1 + 1 < w1.heap.size := (by omega); (try (apply fk hb1 (w.heap.size + 1 + 1 + 1); (focus (go_simp; rfl)); (focus (intro o; go_simp)); intro z; (try clear f_3); have f_3 := z; clear z)); (try (apply ck hb1 (w.heap.size + 1 + 1 + 1) 0; (focus (go_simp; rfl)); intro z; (try clear c_3_0); have c_3_0 := z; clear z; (try (apply ck hb1 (w.heap.size + 1 + 1 + 1) 1; (focus (go_simp; rfl)); intro z; (try clear c_3_1); have c_3_1 := z; clear z)))); (try (have _ : w.heap.size + 1 + 1 + 1 + 1 < w1.heap.size := (by omega); (try (apply fk hb1 (w.heap.size + 1 + 1 + 1 + 1); (focus (go_simp; rfl)); (focus (intro o; go_simp)); intro z; (try clear f_4); have f_4 := z; clear z)); (try (apply ck hb1 (w.heap.size + 1 + 1 + 1 + 1) 0; (focus (go_simp; rfl)); intro z; (try clear c_4_0); have c_4_0 := z; clear z; (try (apply ck hb1 (w.heap.size + 1 + 1 + 1 + 1) 1; (focus (go_simp; rfl)); intro z; (try clear c_4_1); have c_4_1 := z; clear z)))))))))))))); clear hle; (try (apply old_keep (w0 := w) (w := w1); (focus ((repeat (first | (with_reducible exact Up.refl _) | (with_reducible assumption) | (with_reducible refine Up.alloc ?_ _) | (with_reducible refine Up.drew ?_) | ((with_reducible refine Up.set ?_ ?_ _); rotate_left; focus (first | omega | (simp; done) | (simp; omega))) | (with_reducible refine Up.drewN ?_ _) | (with_reducible refine Up.call ?_ (by with_reducible assumption)))))); intro y z; (try clear hUp); (try clear hOld); have hUp := y; have hOld := z; clear y z)))))
      all_goals
        go_ret
        refine RetX.mk (some 4) ?_ rfl rfl
        (repeat (first | (with_reducible exact Up.refl _) | (with_reducible assumption) | (with_reducible refine Up.alloc ?_ _) | (with_reducible refine Up.drew ?_) | ((with_reducible refine Up.set ?_ ?_ _); rotate_left; focus (first | omega | (simp; done) | (simp; omega))) | (with_reducible refine Up.drewN ?_ _) | (with_reducible refine Up.call ?_ (by with_reducible assumption))))
    · have hrr : fcheckF f (n : Int) = firstBadT n f := by unfold fcheckF; rw [if_neg (by omega), if_neg h6]; simp
      rw [hrr]
      have d6 : decide ((6 : Int) < (f.length : Int)) = false := by simp; omega
      have Hr := hid hr
      have n1 : 1 ≤ n := by omega
      have n3 : n ≤ 3 := by omega
      have N1 := hid n1; have N3 := hid n3; have H6 := hid h6
      clear hrr hr hs h6 n1 n3
      go_enter Tryz.func149, Tryz.ntmps149
      go_wp2_with (first
                        | ((go_at_call 71; (with_reducible refine (sides_any _ _).mono ?_); rintro e w1 ⟨x1, hx1, rfl, hb1⟩ <;> (rw [Hd.out] at hx1; subst hx1)) <;> (have hle := Up.le hb1; (try simp only [World.size_alloc, World.size_setCell, World.size_drew, World.heap_drewN] at hle); (try (have _ : w.heap.size < w1.heap.size := (by omega); (try (apply fk hb1 (w.heap.size); (focus (go_simp; rfl)); (focus (intro o; go_simp)); intro z; (try clear f_0); have f_0 := z; clear z)); (try (apply ck hb1 (w.heap.size) 0; (focus (go_simp; rfl)); intro z; (try clear c_0_0); have c_0_0 := z; clear z; (try (apply ck hb1 (w.heap.size) 1; (focus (go_simp; rfl)); intro z; (try clear c_0_1); have c_0_1 := z; clear z)))); (try (have _ : w.heap.size + 1 < w1.heap.size := (by omega); (try (apply fk hb1 (w.heap.size + 1); (focus (go_simp; rfl)); (focus (intro o; go_simp)); intro z; (try clear f_1); have f_1 := z; clear z)); (try (apply ck hb1 (w.heap.size + 1) 0; (focus (go_simp; rfl)); intro z; (try clear c_1_0); have c_1_0 := z; clear z; (try (apply ck hb1 (w.heap.size + 1) 1; (focus (go_simp; rfl)); intro z; (try clear c_1_1); have c_1_1 := z; clear z)))); (try (have _ : w.heap.size + 1 + 1 < w1.heap.size := (by omega); (try (apply fk hb1 (w.heap.size + 1 + 1); (focus (go_simp; rfl)); (focus (intro o; go_simp)); intro z; (try clear f_2); have f_2 := z; clear z)); (try (apply ck hb1 (w.heap.size + 1 + 1) 0; (focus (go_simp; rfl)); intro z; (try clear c_2_0); have c_2_0 := z; clear z; (try (apply ck hb1 (w.heap.size + 1 + 1) 1; (focus (go_simp; rfl)); intro z; (try clear c_2_1); have c_2_1 := z; clear z)))); (try (have _ : w.heap.size + 1 + 1 + 1 < w1.heap.size := (by omega); (try (apply fk hb1 (w.heap.size + 1 + 1 + 1); (focus (go_simp; rfl)); (focus (intro o; go_simp)); intro z; (try clear f_3); have f_3 := z; clear z)); (try (apply ck hb1 (w.heap.size + 1 + 1 + 1) 0; (focus (go_simp; rfl)); intro z; (try clear c_3_0); have c_3_0 := z; clear z; (try (apply ck hb1 (w.heap.size + 1 + 1 + 1) 1; (focus (go_simp; rfl)); intro z; (try clear c_3_1); have c_3_1 := z; clear z)))); (try (have _ : w.heap.size + 1 + 1 + 1 + 1 < w1.heap.size := (by omega); (try (apply fk hb1 (w.heap.size + 1 + 1 + 1 + 1); (focus (go_simp; rfl)); (focus (intro o; go_simp)); intro z; (try clear f_4); have f_4 := z; clear z)); (try (apply ck hb1 (w.heap.size + 1 + 1 + 1 + 1) 0; (focus (go_simp; rfl)); intro z; (try clear c_4_0); have c_4_0 := z; clear z; (try (apply ck hb1 (w.heap.size + 1 + 1 + 1 + 1) 1; (focus (go_simp; rfl)); intro z; (try clear c_4_1); have c_4_1 := z; clear z)))))))))))))); clear hle; (try (apply old_keep (w0 := w) (w := w1); (focus ((repeat (first | (with_reducible exact Up.refl _) | (with_reducible assumption) | (with_reducible refine Up.alloc ?_ _) | (with_reducible refine Up.drew ?_) | ((with_reducible refine Up.set ?_ ?_ _); rotate_left; focus (first | omega | (simp; done) | (simp; omega))) | (with_reducible refine Up.drewN ?_ _) | (with_reducible refine Up.call ?_ (by with_reducible assumption)))))); intro y z; (try clear hUp); (try clear hOld); have hUp := y; have hOld := z; clear y z)))))
      go_loopw [20] (fun i wr => ∃ k : Nat, k ≤ f.length ∧ i = .int .i64 k ∧ Hid (firstBadT n f = firstBadT n (f.drop k)) ∧ Up w wr) (fun i _ => f.length - (intOf i).toNat)
      case atStart => exact ⟨0, by omega, rfl, rfl, hb1⟩
      case round =>
        obtain ⟨k, hk, rfl, H, hU⟩ := hrel
        have gr := (bcell hU).1
        have hl := hU.le
        by_cases hlt : k < f.length
        · obtain ⟨b1, o1, rfl, l1, c1⟩ := (Hr.out).at (by omega)
          obtain ⟨k1, k2, k3, k4⟩ := c1 k hlt
          have Hdr := hid (tdrop f k hlt)
          have Hlt := hid hlt
          have H66 := H6.out
          generalize f[k]?.getD default = t at *
          clear c1
          have _ : b1 < wr.heap.size := by omega
          have hdk : decide ((k : Int) < (f.length : Int)) = true := by simp; omega
          have hkm : (k : Int) < (f.length : Int) := by omega
          go_wp2_with ((go_at_call 190; (with_reducible refine (term_any t n _ N1.out N3.out).mono ?_); rintro e w2 ⟨(_|n2), hx2, rfl, hb2⟩) <;> (have hle := Up.le hb2; (try simp only [World.size_alloc, World.size_setCell, World.size_drew, World.heap_drewN] at hle); (try (have _ : w.heap.size < w2.heap.size := (by omega); (try (apply fk hb2 (w.heap.size); (focus (go_simp; rfl)); (focus (intro o; go_simp)); intro z; (try clear f_0); have f_0 := z; clear z)); (try (apply ck hb2 (w.heap.size) 0; (focus (go_simp; rfl)); intro z; (try clear c_0_0); have c_0_0 := z; clear z; (try (apply ck hb2 (w.heap.size) 1; (focus (go_simp; rfl)); intro z; (try clear c_0_1); have c_0_1 := z; clear z)))); (try (have _ : w.heap.size + 1 < w2.heap.size := (by omega); (try (apply fk hb2 (w.heap.size + 1); (focus (go_simp; rfl)); (focus (intro o; go_simp)); intro z; (try clear f_1); have f_1 := z; clear z)); (try (apply ck hb2 (w.heap.size + 1) 0; (focus (go_simp; rfl)); intro z; (try clear c_1_0); have c_1_0 := z; clear z; (try (apply ck hb2 (w.heap.size + 1) 1; (focus (go_simp; rfl)); intro z; (try clear c_1_1); have c_1_1 := z; clear z)))); (try (have _ : w.heap.size + 1 + 1 < w2.heap.size := (by omega); (try (apply fk hb2 (w.heap.size + 1 + 1); (focus (go_simp; rfl)); (focus (intro o; go_simp)); intro z; (try clear f_2); have f_2 := z; clear z)); (try (apply ck hb2 (w.heap.size + 1 + 1) 0; (focus (go_simp; rfl)); intro z; (try clear c_2_0); have c_2_0 := z; clear z; (try (apply ck hb2 (w.heap.size + 1 + 1) 1; (focus (go_simp; rfl)); intro z; (try clear c_2_1); have c_2_1 := z; clear z)))); (try (have _ : w.heap.size + 1 + 1 + 1 < w2.heap.size := (by omega); (try (apply fk hb2 (w.heap.size + 1 + 1 + 1); (focus (go_simp; rfl)); (focus (intro o; go_simp)); intro z; (try clear f_3); have f_3 := z; clear z)); (try (apply ck hb2 (w.heap.size + 1 + 1 + 1) 0; (focus (go_simp; rfl)); intro z; (try clear c_3_0); have c_3_0 := z; clear z; (try (apply ck hb2 (w.heap.size + 1 + 1 + 1) 1; (focus (go_simp; rfl)); intro z; (try clear c_3_1); have c_3_1 := z; clear z)))); (try (have _ : w.heap.size + 1 + 1 + 1 + 1 < w2.heap.size := (by omega); (try (apply fk hb2 (w.heap.size + 1 + 1 + 1 + 1); (focus (go_simp; rfl)); (focus (intro o; go_simp)); intro z; (try clear f_4); have f_4 := z; clear z)); (try (apply ck hb2 (w.heap.size + 1 + 1 + 1 + 1) 0; (focus (go_simp; rfl)); intro z; (try clear c_4_0); have c_4_0 := z; clear z; (try (apply ck hb2 (w.heap.size + 1 + 1 + 1 + 1) 1; (focus (go_simp; rfl)); intro z; (try clear c_4_1); have c_4_1 := z; clear z)))))))))))))); (try (have _ : wr.heap.size < w2.heap.size := (by omega); (try (apply fk hb2 (wr.heap.size); (focus (go_simp; rfl)); (focus (intro o; go_simp)); intro z; (try clear fr_0); have fr_0 := z; clear z)); (try (apply ck hb2 (wr.heap.size) 0; (focus (go_simp; rfl)); intro z; (try clear cr_0_0); have cr_0_0 := z; clear z; (try (apply ck hb2 (wr.heap.size) 1; (focus (go_simp; rfl)); intro z; (try clear cr_0_1); have cr_0_1 := z; clear z)))); (try (have _ : wr.heap.size + 1 < w2.heap.size := (by omega); (try (apply fk hb2 (wr.heap.size + 1); (focus (go_simp; rfl)); (focus (intro o; go_simp)); intro z; (try clear fr_1); have fr_1 := z; clear z)); (try (apply ck hb2 (wr.heap.size + 1) 0; (focus (go_simp; rfl)); intro z; (try clear cr_1_0); have cr_1_0 := z; clear z; (try (apply ck hb2 (wr.heap.size + 1) 1; (focus (go_simp; rfl)); intro z; (try clear cr_1_1); have cr_1_1 := z; clear z)))); (try (have _ : wr.heap.size + 1 + 1 < w2.heap.size := (by omega); (try (apply fk hb2 (wr.heap.size + 1 + 1); (focus (go_simp; rfl)); (focus (intro o; go_simp)); intro z; (try clear fr_2); have fr_2 := z; clear z)); (try (apply ck hb2 (wr.heap.size + 1 + 1) 0; (focus (go_simp; rfl)); intro z; (try clear cr_2_0); have cr_2_0 := z; clear z; (try (apply ck hb2 (wr.heap.size + 1 + 1) 1; (focus (go_simp; rfl)); intro z; (try clear cr_2_1); have cr_2_1 := z; clear z)))); (try (have _ : wr.heap.size + 1 + 1 + 1 < w2.heap.size := (by omega); (try (apply fk hb2 (wr.heap.size + 1 + 1 + 1); (focus (go_simp; rfl)); (focus (intro o; go_simp)); intro z; (try clear fr_3); have fr_3 := z; clear z)); (try (apply ck hb2 (wr.heap.size + 1 + 1 + 1) 0; (focus (go_simp; rfl)); intro z; (try clear cr_3_0); have cr_3_0 := z; clear z; (try (apply ck hb2 (wr.heap.size + 1 + 1 + 1) 1; (focus (go_simp; rfl)); intro z; (try clear cr_3_1); have cr_3_1 := z; clear z)))); (try (have _ : wr.heap.size + 1 + 1 + 1 + 1 < w2.heap.size := (by omega); (try (apply fk hb2 (wr.heap.size + 1 + 1 + 1 + 1); (focus (go_simp; rfl)); (focus (intro o; go_simp)); intro z; (try clear fr_4); have fr_4 := z; clear z)); (try (apply ck hb2 (wr.heap.size + 1 + 1 + 1 + 1) 0; (focus (go_simp; rfl)); intro z; (try clear cr_4_0); have cr_4_0 := z; clear z; (try (apply ck hb2 (wr.heap.size + 1 + 1 + 1 + 1) 1; (focus (go_simp; rfl)); intro z; (try clear cr_4_1); have cr_4_1 := z; clear z)))))))))))))); (try (have _ : w1.heap.size < w2.heap.size := (by omega); (try (apply fk hb2 (w1.heap.size); (focus (go_simp; rfl)); (focus (intro o; go_simp)); intro z; (try clear f1_0); have f1_0 := z; clear z)); (try (apply ck hb2 (w1.heap.size) 0; (focus (go_simp; rfl)); intro z; (try clear c1_0_0); have c1_0_0 := z; clear z; (try (apply ck hb2 (w1.heap.size) 1; (focus (go_simp; rfl)); intro z; (try clear c1_0_1); have c1_0_1 := z; clear z)))); (try (have _ : w1.heap.size + 1 < w2.heap.size := (by omega); (try (apply fk hb2 (w1.heap.size + 1); (focus (go_simp; rfl)); (focus (intro o; go_simp)); intro z; (try clear f1_1); have f1_1 := z; clear z)); (try (apply ck hb2 (w1.heap.size + 1) 0; (focus (go_simp; rfl)); intro z; (try clear c1_1_0); have c1_1_0 := z; clear z; (try (apply ck hb2 (w1.heap.size + 1) 1; (focus (go_simp; rfl)); intro z; (try clear c1_1_1); have c1_1_1 := z; clear z)))))))); clear hle; (try (apply old_keep (w0 := w) (w := w2); (focus ((repeat (first | (with_reducible exact Up.refl _) | (with_reducible assumption) | (with_reducible refine Up.alloc ?_ _) | (with_reducible refine Up.drew ?_) | ((with_reducible refine Up.set ?_ ?_ _); rotate_left; focus (first | omega | (simp; done) | (simp; omega))) | (with_reducible refine Up.drewN ?_ _) | (with_reducible refine Up.call ?_ (by with_reducible assumption)))))); intro y z; (try clear hUp); (try clear hOld); have hUp := y; have hOld := z; clear y z))))
          · go_roundw
            case rel =>
              refine ⟨k + 1, by have := Hlt.out; omega, by go_num, ?_, ?_⟩
              · show _ = _
                rw [H.out, Hdr.out]; exact fb_none hx2
              · clear hb1; (repeat (first | (with_reducible exact Up.refl _) | (with_reducible assumption) | (with_reducible refine Up.alloc ?_ _) | (with_reducible refine Up.drew ?_) | ((with_reducible refine Up.set ?_ ?_ _); rotate_left; focus (first | omega | (simp; done) | (simp; omega))) | (with_reducible refine Up.drewN ?_ _) | (with_reducible refine Up.call ?_ (by with_reducible assumption))))
            case measure => have := Hlt.out; simp [intOf]; omega
          · go_ret
            refine RetX.mk (some n2) ?_ ?_ rfl
            · clear hb1; (repeat (first | (with_reducible exact Up.refl _) | (with_reducible assumption) | (with_reducible refine Up.alloc ?_ _) | (with_reducible refine Up.drew ?_) | ((with_reducible refine Up.set ?_ ?_ _); rotate_left; focus (first | omega | (simp; done) | (simp; omega))) | (with_reducible refine Up.drewN ?_ _) | (with_reducible refine Up.call ?_ (by with_reducible assumption))))
            · rw [H.out, Hdr.out]; exact fb_some hx2
        · obtain rfl : k = f.length := by omega
          go_wp2
          go_ret
          refine RetX.mk none hU ?_ rfl
          rw [H.out, List.drop_length]; rfl
  · have hrr : fcheckF f sides = some 1 := by unfold fcheckF; rw [if_pos (by omega)]
    rw [hrr]
    have Hd := hid (decide_eq_false hs)
    clear hrr hr hs
    go_enter Tryz.func149, Tryz.ntmps149
    go_wp2_with (first
                        | ((go_at_call 71; (with_reducible refine (sides_any _ _).mono ?_); rintro e w1 ⟨x1, hx1, rfl, hb1⟩ <;> (rw [Hd.out] at hx1; subst hx1)) <;> (have hle := Up.le hb1; (try simp only [World.size_alloc, World.size_setCell, World.size_drew, World.heap_drewN] at hle); (try (have _ : w.heap.size < w1.heap.size := (by omega); (try (apply fk hb1 (w.heap.size); (focus (go_simp; rfl)); (focus (intro o; go_simp)); intro z; (try clear f_0); have f_0 := z; clear z)); (try (apply ck hb1 (w.heap.size) 0; (focus (go_simp; rfl)); intro z; (try clear c_0_0); have c_0_0 := z; clear z; (try (apply ck hb1 (w.heap.size) 1; (focus (go_simp; rfl)); intro z; (try clear c_0_1); have c_0_1 := z; clear z)))); (try (have _ : w.heap.size + 1 < w1.heap.size := (by omega); (try (apply fk hb1 (w.heap.size + 1); (focus (go_simp; rfl)); (focus (intro o; go_simp)); intro z; (try clear f_1); have f_1 := z; clear z)); (try (apply ck hb1 (w.heap.size + 1) 0; (focus (go_simp; rfl)); intro z; (try clear c_1_0); have c_1_0 := z; clear z; (try (apply ck hb1 (w.heap.size + 1) 1; (focus (go_simp; rfl)); intro z; (try clear c_1_1); have c_1_1 := z; clear z)))); (try (have _ : w.heap.size + 1 + 1 < w1.heap.size := (by omega); (try (apply fk hb1 (w.heap.size + 1 + 1); (focus (go_simp; rfl)); (focus (intro o; go_simp)); intro z; (try clear f_2); have f_2 := z; clear z)); (try (apply ck hb1 (w.heap.size + 1 + 1) 0; (focus (go_simp; rfl)); intro z; (try clear c_2_0); have c_2_0 := z; clear z; (try (apply ck hb1 (w.heap.size + 1 + 1) 1; (focus (go_simp; rfl)); intro z; (try clear c_2_1); have c_2_1 := z; clear z)))); (try (have _ : w.heap.size + 1 + 1 + 1 < w1.heap.size := (by omega); (try (apply fk hb1 (w.heap.size + 1 + 1 + 1); (focus (go_simp; rfl)); (focus (intro o; go_simp)); intro z; (try clear f_3); have f_3 := z; clear z)); (try (apply ck hb1 (w.heap.size + 1 + 1 + 1) 0; (focus (go_simp; rfl)); intro z; (try clear c_3_0); have c_3_0 := z; clear z; (try (apply ck hb1 (w.heap.size + 1 + 1 + 1) 1; (focus (go_simp; rfl)); intro z; (try clear c_3_1); have c_3_1 := z; clear z)))); (try (have _ : w.heap.size + 1 + 1 + 1 + 1 < w1.heap.size := (by omega); (try (apply fk hb1 (w.heap.size + 1 + 1 + 1 + 1); (focus (go_simp; rfl)); (focus (intro o; go_simp)); intro z; (try clear f_4); have f_4 := z; clear z)); (try (apply ck hb1 (w.heap.size + 1 + 1 + 1 + 1) 0; (focus (go_simp; rfl)); intro z; (try clear c_4_0); have c_4_0 := z; clear z; (try (apply ck hb1 (w.heap.size + 1 + 1 + 1 + 1) 1; (focus (go_simp; rfl)); intro z; (try clear c_4_1); have c_4_1 := z; clear z)))))))))))))); clear hle; (try (apply old_keep (w0 := w) (w := w1); (focus ((repeat (first | (with_reducible exact Up.refl _) | (with_reducible assumption) | (with_reducible refine Up.alloc ?_ _) | (with_reducible refine Up.drew ?_) | ((with_reducible refine Up.set ?_ ?_ _); rotate_left; focus (first | omega | (simp; done) | (simp; omega))) | (with_reducible refine Up.drewN ?_ _) | (with_reducible refine Up.call ?_ (by with_reducible assumption)))))); intro y z; (try clear hUp); (try clear hOld); have hUp := y; have hOld := z; clear y z)))))
    all_goals
      go_ret
      refine RetX.mk (some 1) ?_ rfl rfl
      (repeat (first | (with_reducible exact Up.refl _) | (with_reducible assumption) | (with_reducible refine Up.alloc ?_ _) | (with_reducible refine Up.drew ?_) | ((with_reducible refine Up.set ?_ ?_ _); rotate_left; focus (first | omega | (simp; done) | (simp; omega))) | (with_reducible refine Up.drewN ?_ _) | (with_reducible refine Up.call ?_ (by with_reducible assumption))))
end Go.Proofs.YtmjcnpolnknkkaaGreatDoor
