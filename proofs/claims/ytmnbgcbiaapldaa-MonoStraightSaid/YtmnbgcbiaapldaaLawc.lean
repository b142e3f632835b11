/- MonoStraight: a line goes one way. -/
import Derived.Test.YtmnbgcbiaapldaaMono
import Derived.Test.YtmnbgcbiaapldaaRowb
import Derived.Test.YtmnbgcbiaapldaaLits
import Derived.Test.YtmnbgcbiaapldaaFacts
set_option linter.unusedVariables false
set_option linter.unusedSimpArgs false
namespace Go.Proofs.Ytmnbgcbiaapldaa
open Go.ChangeShapes Go.WideShapes Go.ChangeAt Go.RowKit Go.Joins Go.Deep

theorem line_way {a b : Int} {x : Sp} {v : Int} (h : mwayF [a, b] x = .ok v) : v = if 0 ≤ b then 1 else -1 := by
  unfold mwayF cslopeF orErr at h
  cases h1 : pbothF [a, b] x with
  | some e => rw [h1] at h; cases h
  | none =>
    rw [h1] at h
    dsimp only at h
    unfold steepF slopeF at h
    rw [if_neg (by simp)] at h
    simp only [List.tail_cons, slopeG] at h
    by_cases hM : M (b * ((1 : Nat) : Int))
    · rw [if_pos hM] at h
      simp only [nestedF] at h
      injection h with h
      rw [← h]
      unfold wayF
      simp
      split
      · rfl
      · rw [if_pos (by omega)]
    · rw [if_neg hM] at h
      cases h
set_option maxHeartbeats 1000000 in
theorem monoStraight_walk (a b lo hi : Int) (w : World) (_h1 : I64 a) (_h2 : I64 b) (_h : I64 lo ∧ I64 hi) :
    Calls Try.prog 10 #[.int .i64 a, .int .i64 b, .agg #[.int .i64 lo, .int .i64 hi]] w (LawEnd w) := by
  clear _h _h1 _h2
  have HL := hid (fun v (h : mwayF [a, b] ⟨lo, hi⟩ = .ok v) => line_way h)
  have HW := hid (fun A W (hr : RdI W A [a, b]) => (mway_any A [a, b] 2 lo hi W (by simp) hr : Calls Try.prog 54 #[.slice A 2 2, .agg #[.int .i64 lo, .int .i64 hi]] W (RetX intR (mwayF [a, b] ⟨lo, hi⟩) W)))
  by_cases hb : 0 ≤ b
  all_goals
    first
      | have hdb : decide ((0 : Int) ≤ b) = true := by simpa using hb
      | have hdb : decide ((0 : Int) ≤ b) = false := by simpa using hb
    go_enter Try.func10, Try.ntmps10
    go_wp2_with ((go_at_call 54; (refine (HW.out _ _ (rdi2 (by go_simp) (by go_simp))).mono ?_); rintro e w1 ⟨(n1|v1), hx1, rfl, hb1⟩ <;> (try (have hv := HL.out v1 hx1; (first | rw [if_pos hb] at hv | rw [if_neg hb] at hv); subst hv))) <;> (have hle1 := Up.le hb1; (try simp only [World.size_alloc, World.size_setCell, World.size_drew, World.heap_drewN] at hle1); try (have l1_0_0 : w.heap.size < w1.heap.size := (by omega); try (apply cell_keep hb1 (w.heap.size) 0; (focus (first | omega | (simp only [World.size_alloc, World.size_setCell, World.size_drew, World.heap_drewN]; omega))); (focus (go_simp; rfl)); intro c1_0_0_0; try (apply cell_keep hb1 (w.heap.size) 1; (focus (first | omega | (simp only [World.size_alloc, World.size_setCell, World.size_drew, World.heap_drewN]; omega))); (focus (go_simp; rfl)); intro c1_0_0_1)); try (apply free_keep hb1 (w.heap.size); (focus (first | omega | (simp only [World.size_alloc, World.size_setCell, World.size_drew, World.heap_drewN]; omega))); (focus (intro o; go_simp)); intro f1_0_0); try (have l1_0_1 : w.heap.size + 1 < w1.heap.size := (by omega); try (apply cell_keep hb1 (w.heap.size + 1) 0; (focus (first | omega | (simp only [World.size_alloc, World.size_setCell, World.size_drew, World.heap_drewN]; omega))); (focus (go_simp; rfl)); intro c1_0_1_0; try (apply cell_keep hb1 (w.heap.size + 1) 1; (focus (first | omega | (simp only [World.size_alloc, World.size_setCell, World.size_drew, World.heap_drewN]; omega))); (focus (go_simp; rfl)); intro c1_0_1_1)); try (apply free_keep hb1 (w.heap.size + 1); (focus (first | omega | (simp only [World.size_alloc, World.size_setCell, World.size_drew, World.heap_drewN]; omega))); (focus (intro o; go_simp)); intro f1_0_1); try (have l1_0_2 : w.heap.size + 1 + 1 < w1.heap.size := (by omega); try (apply cell_keep hb1 (w.heap.size + 1 + 1) 0; (focus (first | omega | (simp only [World.size_alloc, World.size_setCell, World.size_drew, World.heap_drewN]; omega))); (focus (go_simp; rfl)); intro c1_0_2_0; try (apply cell_keep hb1 (w.heap.size + 1 + 1) 1; (focus (first | omega | (simp only [World.size_alloc, World.size_setCell, World.size_drew, World.heap_drewN]; omega))); (focus (go_simp; rfl)); intro c1_0_2_1)); try (apply free_keep hb1 (w.heap.size + 1 + 1); (focus (first | omega | (simp only [World.size_alloc, World.size_setCell, World.size_drew, World.heap_drewN]; omega))); (focus (intro o; go_simp)); intro f1_0_2); try (have l1_0_3 : w.heap.size + 1 + 1 + 1 < w1.heap.size := (by omega); try (apply cell_keep hb1 (w.heap.size + 1 + 1 + 1) 0; (focus (first | omega | (simp only [World.size_alloc, World.size_setCell, World.size_drew, World.heap_drewN]; omega))); (focus (go_simp; rfl)); intro c1_0_3_0; try (apply cell_keep hb1 (w.heap.size + 1 + 1 + 1) 1; (focus (first | omega | (simp only [World.size_alloc, World.size_setCell, World.size_drew, World.heap_drewN]; omega))); (focus (go_simp; rfl)); intro c1_0_3_1)); try (apply free_keep hb1 (w.heap.size + 1 + 1 + 1); (focus (first | omega | (simp only [World.size_alloc, World.size_setCell, World.size_drew, World.heap_drewN]; omega))); (focus (intro o; go_simp)); intro f1_0_3); try (have l1_0_4 : w.heap.size + 1 + 1 + 1 + 1 < w1.heap.size := (by omega); try (apply cell_keep hb1 (w.heap.size + 1 + 1 + 1 + 1) 0; (focus (first | omega | (simp only [World.size_alloc, World.size_setCell, World.size_drew, World.heap_drewN]; omega))); (focus (go_simp; rfl)); intro c1_0_4_0; try (apply cell_keep hb1 (w.heap.size + 1 + 1 + 1 + 1) 1; (focus (first | omega | (simp only [World.size_alloc, World.size_setCell, World.size_drew, World.heap_drewN]; omega))); (focus (go_simp; rfl)); intro c1_0_4_1)); try (apply free_keep hb1 (w.heap.size + 1 + 1 + 1 + 1); (focus (first | omega | (simp only [World.size_alloc, World.size_setCell, World.size_drew, World.heap_drewN]; omega))); (focus (intro o; go_simp)); intro f1_0_4)))))); clear hle1; try (apply old_keep (w0 := w) (w := w1); (focus ((repeat (first | (with_reducible exact Up.refl _) | (with_reducible assumption) | (with_reducible refine Up.alloc ?_ _) | (with_reducible refine Up.drew ?_) | ((with_reducible refine Up.set ?_ ?_ _); rotate_left; focus (first | omega | (simp; done) | (simp; omega))) | (with_reducible refine Up.drewN ?_ _) | (with_reducible refine Up.call ?_ (by with_reducible assumption)))))); intro hU1 g1)))
    all_goals
      go_ret
      refine LawEnd.mk rfl ?_
      (repeat (first | (with_reducible exact Up.refl _) | (with_reducible assumption) | (with_reducible refine Up.alloc ?_ _) | (with_reducible refine Up.drew ?_) | ((with_reducible refine Up.set ?_ ?_ _); rotate_left; focus (first | omega | (simp; done) | (simp; omega))) | (with_reducible refine Up.drewN ?_ _) | (with_reducible refine Up.call ?_ (by with_reducible assumption))))
set_option maxRecDepth 100000 in
theorem monoStraight_lifted (os : Os) (started : os.Started) (H : Type) (enc : TypeId × Value → H) :
    ReturnsInHanded {} Try.checked os 10 .any (Rows.monoStraightSpec.pre6 enc Try.prog Try.f10 Rows.monoStraightRow.domain false) (Rows.monoStraightSpec.post enc Try.prog Try.f10 false true false false) := by
  refine returnsInHanded_of_change (C := Try.checked) Try.own started (by kernel_rfl) Try.func10
    (ChangeSpec.witness6 (enc := enc) (C := Try.checked) false ⟨#[], #[.int .i64 0, .int .i64 0, .agg #[.int .i64 0, .int .i64 0]], []⟩ 8 (by kernel_rfl) (by kernel_rfl) (by kernel_rfl) (by kernel_rfl)) ?_
  intro W base args ds gs before hval0 hW hcnd _
  have hval : ∀ (j : Nat) t v, Try.f10.params[j]? = some t → args[j]? = some v → Value.okWide Try.prog W .any base t v := hval0
  have hW' := hW
  obtain ⟨p, q, hA0, hV, rfl, hfz, hnd⟩ := hW
  have hA : DataW.TrodAll enc Try.prog W 0 (fun _ => true) true Try.f10.params.toList args.toList ds p := hA0
  rw [Try.params10] at hA hval
  obtain ⟨v0, v1, v2, d0, d1, d2, p0, p1, p2, rfl, rfl, rfl, h0, h1, h2⟩ := trodAll_three hA
  obtain ⟨rfl, rfl⟩ := trodVars_none hV
  obtain ⟨n0, rfl, w0⟩ := open_i64 Try.underlying3 (hval 0 3 _ rfl rfl) h0
  obtain ⟨n1, rfl, w1⟩ := open_i64 Try.underlying3 (hval 1 3 _ rfl rfl) h1
  obtain ⟨lo2, hi2, rfl, w2a, w2b⟩ := open_span (ti := 3) Try.underlying27 rfl rfl Try.underlying3 (by kernel_rfl) Try.cellsSpan (hval 2 27 _ rfl rfl) h2
  clear hA0 hval0
  refine (monoStraight_walk n0 n1 lo2 hi2 W w0 w1 ⟨wf_I64 w2a, wf_I64 w2b⟩).mono fun e W' ⟨he, hu⟩ => ?_
  subst he
  exact ⟨_, rfl, law_post Try.laidOut rfl rfl Try.underlying4 (fun t ht => by simp [Try.params10] at ht; (try rcases ht with rfl | rfl); all_goals (first | (subst ht; exact ⟨by kernel_rfl, of_decide_eq_true (by kernel_rfl)⟩) | exact ⟨by kernel_rfl, of_decide_eq_true (by kernel_rfl)⟩)) hW' rfl rfl rfl hu⟩
theorem monoStraight_k1 : (Rows.monoStraightRow.inPlace == Try.pinned.checked.prog.inPlace 10) = true := by kernel_rfl
theorem monoStraight_k2 : (Rows.monoStraightRow.unfollowed == Try.pinned.checked.prog.unfollowed 10) = true := by kernel_rfl
theorem monoStraight_k3 : (Rows.monoStraightRow.recurses == Try.pinned.checked.prog.recurses 10) = true := by kernel_rfl
theorem monoStraight_k4 : (Rows.monoStraightRow.named == Try.pinned.checked.prog.varsNamed 10) = true := by kernel_rfl
theorem monoStraight_facts : joinedFacts Try.pinned.checked.prog 10 Try.f10 Rows.monoStraightSpec Rows.monoStraightRow = true :=
  joined_of _ _ _ _ _ Try.g1 Try.g2 Try.g3 Try.g4 Try.g5 Try.g6 Try.g7 Try.g8 Try.g9 monoStraight_k1 monoStraight_k2 monoStraight_k3 monoStraight_k4 (by kernel_rfl)
theorem monoStraight_holds : Rows.MonoStraightSaid :=
  OpenClaim.holds_of_wide 10 Try.f10 rfl rfl rfl rfl rfl rfl rfl ⟨rfl, rfl, rfl, rfl, rfl⟩ rfl rfl rfl rfl rfl (by kernel_rfl) Try.func10 monoStraight_facts
    (of_decide_eq_true (by kernel_rfl)) (by unfold Func.isWrapper; rw [if_neg (by decide +kernel)]; exact ⟨rfl, rfl⟩)
    (fun os started H enc _ => monoStraight_lifted os started H enc)
#print axioms monoStraight_holds
end Go.Proofs.Ytmnbgcbiaapldaa
