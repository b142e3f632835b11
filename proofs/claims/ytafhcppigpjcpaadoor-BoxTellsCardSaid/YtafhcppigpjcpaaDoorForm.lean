/- The walks of package form: term, Check. -/
import Derived.Test.YtafhcppigpjcpaaDoorSys
import Derived.Test.YtafhcppigpjcpaaDoorPoly
import Derived.Test.YtafhcppigpjcpaaDoorOwn
import Derived.LoopN
set_option linter.unusedVariables false
set_option linter.unusedSimpArgs false
namespace Go.Proofs.YtafhcppigpjcpaaDoor
open Go.RowKit

theorem Tryd.infoInt3 : (Tryd.prog.info? 3).map (fun i => (i.zero, i.size, i.bytes)) = some (some (.int .i64 0), 1, 8) := by kernel_rfl
theorem Tryd.idx0 (a b c : Int) (w : World) : (Instr.index 109 (.agg #[.int .i64 a, .int .i64 b, .int .i64 c]) (.int .i64 0)).run Tryd.prog w = .ok (.int .i64 a) w := by
  obtain ⟨i0, hi0, hz0, hz1, hz2⟩ := info_parts Tryd.infoInt3
  simp [Instr.index, run_underlying Tryd.underlying109, asIntOf, go_sem, part, sizeOf, typeInfo, hi0, hz1]
theorem Tryd.idx1 (a b c : Int) (w : World) : (Instr.index 109 (.agg #[.int .i64 a, .int .i64 b, .int .i64 c]) (.int .i64 1)).run Tryd.prog w = .ok (.int .i64 b) w := by
  obtain ⟨i0, hi0, hz0, hz1, hz2⟩ := info_parts Tryd.infoInt3
  simp [Instr.index, run_underlying Tryd.underlying109, asIntOf, go_sem, part, sizeOf, typeInfo, hi0, hz1]
theorem Tryd.idx2 (a b c : Int) (w : World) : (Instr.index 109 (.agg #[.int .i64 a, .int .i64 b, .int .i64 c]) (.int .i64 2)).run Tryd.prog w = .ok (.int .i64 c) w := by
  obtain ⟨i0, hi0, hz0, hz1, hz2⟩ := info_parts Tryd.infoInt3
  simp [Instr.index, run_underlying Tryd.underlying109, asIntOf, go_sem, part, sizeOf, typeInfo, hi0, hz1]
attribute [go_sem] Tryd.idx0 Tryd.idx1 Tryd.idx2
theorem sides_any (n : Int) (w : World) : Calls Tryd.prog 118 #[.int .i64 n] w (RetX boolV (decide (1 ≤ n ∧ n ≤ 3)) w) := by
  by_cases h1 : 1 ≤ n
  · have d1 : decide (1 ≤ n) = true := by simpa using h1
    by_cases h2 : n ≤ 3
    · have d2 : decide (n ≤ 3) = true := by simpa using h2
      have hr : decide (1 ≤ n ∧ n ≤ 3) = true := by simp; omega
      rw [hr]
      clear hr h1 h2
      go_enter Tryd.func118, Tryd.ntmps118
      go_wp2
      go_ret
      exact RetX.mk true (Up.refl _) rfl rfl
    · have d2 : decide (n ≤ 3) = false := by simpa using h2
      have hr : decide (1 ≤ n ∧ n ≤ 3) = false := by simp; omega
      rw [hr]
      clear hr h1 h2
      go_enter Tryd.func118, Tryd.ntmps118
      go_wp2
      go_ret
      exact RetX.mk false (Up.refl _) rfl rfl
  · have d1 : decide (1 ≤ n) = false := by simpa using h1
    have hr : decide (1 ≤ n ∧ n ≤ 3) = false := by simp; omega
    rw [hr]
    clear hr h1
    go_enter Tryd.func118, Tryd.ntmps118
    go_wp2
    go_ret
    exact RetX.mk false (Up.refl _) rfl rfl
theorem term1_any (n : Int) (w : World) : Calls Tryd.prog 148 #[.int .i64 n] w fun e w' => e = .returned (.bool (decide (0 < n))) ∧ w = w' := by
  go_enter Tryd.func148, Tryd.ntmps148
  go_wp2
  go_ret
  exact ⟨rfl, rfl⟩
theorem tc1 {t : Tm} {k : Nat} (hM : M t.by_) (h : t.t0 < 0 ∨ 3 < t.t0 ∨ t.t1 < 0 ∨ 3 < t.t1 ∨ t.t2 < 0 ∨ 3 < t.t2 ∨ 3 < t.t0 + t.t1 + t.t2) : tcheckF t k = some 1 := by
  unfold tcheckF
  rw [if_neg (fun h => h hM)]
  split
  · rfl
  · rw [if_pos (by omega)]
theorem tc3 {t : Tm} {k : Nat} (hM : M t.by_) (h : 0 ≤ t.t0 ∧ t.t0 ≤ 3 ∧ 0 ≤ t.t1 ∧ t.t1 ≤ 3 ∧ 0 ≤ t.t2 ∧ t.t2 ≤ 3 ∧ t.t0 + t.t1 + t.t2 ≤ 3) (hs : (k ≤ 1 ∧ 0 < t.t1) ∨ (k ≤ 2 ∧ 0 < t.t2)) : tcheckF t k = some 3 := by
  unfold tcheckF
  rw [if_neg (fun h => h hM), if_neg (by omega), if_neg (by omega), if_pos hs]
theorem tc0 {t : Tm} {k : Nat} (hM : M t.by_) (h : 0 ≤ t.t0 ∧ t.t0 ≤ 3 ∧ 0 ≤ t.t1 ∧ t.t1 ≤ 3 ∧ 0 ≤ t.t2 ∧ t.t2 ≤ 3 ∧ t.t0 + t.t1 + t.t2 ≤ 3) (hs : ¬ ((k ≤ 1 ∧ 0 < t.t1) ∨ (k ≤ 2 ∧ 0 < t.t2))) : tcheckF t k = none := by
  unfold tcheckF
  rw [if_neg (fun h => h hM), if_neg (by omega), if_neg (by omega), if_neg hs]
theorem rdi23 {W : World} {g : Nat} {a b : Int} (ha : W.cell? ⟨g, 2, none⟩ = some (.int .i64 a)) (hb : W.cell? ⟨g, 3, none⟩ = some (.int .i64 b)) : RdI W (some ⟨g, 2, none⟩) [a, b] := fun _ =>
  ⟨g, 2, rfl, World.block_lt_of_cell? W _ ha, fun k hk => by match k, hk with | 0, _ => exact ha | 1, _ => exact hb⟩
theorem rdi_3 {W : World} {g : Nat} {a : Int} (ha : W.cell? ⟨g, 3, none⟩ = some (.int .i64 a)) : RdI W (some ⟨g, 3, none⟩) [a] := fun _ =>
  ⟨g, 3, rfl, World.block_lt_of_cell? W _ ha, fun k hk => by match k, hk with | 0, _ => exact ha⟩
set_option maxRecDepth 100000 in
set_option maxHeartbeats 4000000 in
theorem term_any (t : Tm) (sides : Nat) (w : World) (h1 : 1 ≤ sides) (h3 : sides ≤ 3) :
    Calls Tryd.prog 119 #[.agg #[.int .i64 t.by_, .int .i64 t.t0, .int .i64 t.t1, .int .i64 t.t2], .int .i64 sides] w (RetX errV (tcheckF t sides) w) := by
  have hen : ∀ args w, (callFunc 148 args).run Tryd.prog w = .ok (.enter 148 args) w := enters_of Tryd.func148 (by kernel_rfl) rfl
  have Hc := hid (fun A l c W (hl : l.length ≤ 1000) (hr : RdI W A l) => containsFunc_any 148 hen (fun n => decide (0 < n)) A l c W hl hr (fun n W _ => term1_any n W))
  have HT := hid (show ∀ e, tcheckF t sides = e → tcheckF t sides = e from fun _ h => h)
  clear HT
  cases hm : mayB t.by_ with
  | false =>
    have hr : tcheckF t sides = some 1 := by unfold tcheckF; rw [if_pos (mayB_false.1 hm)]
    rw [hr]
    clear hr
    go_enter Tryd.func119, Tryd.ntmps119
    go_wp2_with (first
                        | (go_at_call 95; refine (may_any _ _).mono ?_; rintro e w' ⟨rfl, rfl⟩))
    all_goals
      go_ret
      refine RetX.mk (some 1) ?_ rfl rfl
      (repeat (first | (with_reducible exact Up.refl _) | (with_reducible assumption) | (with_reducible refine Up.alloc ?_ _) | (with_reducible refine Up.drew ?_) | ((with_reducible refine Up.set ?_ ?_ _); rotate_left; focus (first | omega | (simp; done) | (simp; omega))) | (with_reducible refine Up.drewN ?_ _) | (with_reducible refine Up.call ?_ (by with_reducible assumption))))
  | true =>
    have hM := mayB_true.1 hm
    have HM := hid hM
    have hs : sides = 1 ∨ sides = 2 ∨ sides = 3 := by omega
    clear hM h1 h3
    rcases hs with rfl | rfl | rfl
    · go_enter Tryd.func119, Tryd.ntmps119
      go_wp2_with (first
                        | (go_at_call 95; refine (may_any _ _).mono ?_; rintro e w' ⟨rfl, rfl⟩))
      refine wp_loop_rounds 4 ?_
      repeat any_goals (rw [rounds_succ]; go_wp2_with (go_at_call 103; refine (Hc.out _ [t.t1, t.t2] _ _ (by simp) (rdi23 (by go_simp) (by go_simp))).mono ?_; rintro e w' ⟨rfl, rfl⟩))
      all_goals
        go_ret
        first
          | (refine RetX.mk (some 1) ?_ ?_ rfl; rotate_left; (focus (refine tc1 HM.out ?_; omega)))
          | (refine RetX.mk (some 3) ?_ ?_ rfl; rotate_left; (focus (refine tc3 HM.out ?_ ?_ <;> omega)))
          | (refine RetX.mk none ?_ ?_ rfl; rotate_left; (focus (refine tc0 HM.out ?_ ?_ <;> omega)))
        (repeat (first | (with_reducible exact Up.refl _) | (with_reducible assumption) | (with_reducible refine Up.alloc ?_ _) | (with_reducible refine Up.drew ?_) | ((with_reducible refine Up.set ?_ ?_ _); rotate_left; focus (first | omega | (simp; done) | (simp; omega))) | (with_reducible refine Up.drewN ?_ _) | (with_reducible refine Up.call ?_ (by with_reducible assumption))))
    · go_enter Tryd.func119, Tryd.ntmps119
      go_wp2_with (first
                        | (go_at_call 95; refine (may_any _ _).mono ?_; rintro e w' ⟨rfl, rfl⟩))
      refine wp_loop_rounds 4 ?_
      repeat any_goals (rw [rounds_succ]; go_wp2_with (go_at_call 103; refine (Hc.out _ [t.t2] _ _ (by simp) (rdi_3 (by go_simp))).mono ?_; rintro e w' ⟨rfl, rfl⟩))
      all_goals
        go_ret
        first
          | (refine RetX.mk (some 1) ?_ ?_ rfl; rotate_left; (focus (refine tc1 HM.out ?_; omega)))
          | (refine RetX.mk (some 3) ?_ ?_ rfl; rotate_left; (focus (refine tc3 HM.out ?_ ?_ <;> omega)))
          | (refine RetX.mk none ?_ ?_ rfl; rotate_left; (focus (refine tc0 HM.out ?_ ?_ <;> omega)))
        (repeat (first | (with_reducible exact Up.refl _) | (with_reducible assumption) | (with_reducible refine Up.alloc ?_ _) | (with_reducible refine Up.drew ?_) | ((with_reducible refine Up.set ?_ ?_ _); rotate_left; focus (first | omega | (simp; done) | (simp; omega))) | (with_reducible refine Up.drewN ?_ _) | (with_reducible refine Up.call ?_ (by with_reducible assumption))))
    · go_enter Tryd.func119, Tryd.ntmps119
      go_wp2_with (first
                        | (go_at_call 95; refine (may_any _ _).mono ?_; rintro e w' ⟨rfl, rfl⟩))
      refine wp_loop_rounds 4 ?_
      repeat any_goals (rw [rounds_succ]; go_wp2_with (go_at_call 103; refine (Hc.out _ [] _ _ (by simp) (RdI.nil _ _)).mono ?_; rintro e w' ⟨rfl, rfl⟩))
      all_goals
        go_ret
        first
          | (refine RetX.mk (some 1) ?_ ?_ rfl; rotate_left; (focus (refine tc1 HM.out ?_; omega)))
          | (refine RetX.mk (some 3) ?_ ?_ rfl; rotate_left; (focus (refine tc3 HM.out ?_ ?_ <;> omega)))
          | (refine RetX.mk none ?_ ?_ rfl; rotate_left; (focus (refine tc0 HM.out ?_ ?_ <;> omega)))
        (repeat (first | (with_reducible exact Up.refl _) | (with_reducible assumption) | (with_reducible refine Up.alloc ?_ _) | (with_reducible refine Up.drew ?_) | ((with_reducible refine Up.set ?_ ?_ _); rotate_left; focus (first | omega | (simp; done) | (simp; omega))) | (with_reducible refine Up.drewN ?_ _) | (with_reducible refine Up.call ?_ (by with_reducible assumption))))
end Go.Proofs.YtafhcppigpjcpaaDoor
