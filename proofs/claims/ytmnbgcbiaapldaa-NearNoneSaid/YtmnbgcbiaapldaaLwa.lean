/- NearNone: where nothing changes nothing comes closer. No condition. -/
import Derived.Test.YtmnbgcbiaapldaaNearb
import Derived.Test.YtmnbgcbiaapldaaNone
import Derived.Test.YtmnbgcbiaapldaaRowd
import Derived.Test.YtmnbgcbiaapldaaFacts

set_option linter.unusedVariables false
set_option linter.unusedSimpArgs false
namespace Go.Proofs.Ytmnbgcbiaapldaa
open Go.ChangeShapes Go.WideShapes Go.ChangeAt Go.RowKit Go.Joins Go.Deep

theorem fact_steep : nsteepF [⟨3, 2, 1, 0⟩] 2 0 = .ok [⟨6, 1, 1, 0⟩] := by rfl
theorem tlE_one {w : World} {t : Tm} {v : Value} (h : tlE w (.ok [t]) v) : ∃ b o c, v = .tuple #[.slice (some ⟨b, o, none⟩) 1 c, .nilIface] ∧ b < w.heap.size ∧ w.cell? ⟨b, o, none⟩ = some (.int .i64 t.by_) ∧ w.cell? ⟨b, o + 1, none⟩ = some (.int .i64 t.t0) ∧ w.cell? ⟨b, o + 2, none⟩ = some (.int .i64 t.t1) ∧ 1 ≤ c := by
  obtain ⟨A, c, rfl, hr, hc⟩ := tlE_ok h
  obtain ⟨b, o, rfl, hb, k⟩ := hr (by simp)
  obtain ⟨k1, k2, k3, -⟩ := k 0 (by simp)
  exact ⟨b, o, c, rfl, hb, k1, k2, k3, hc⟩
set_option maxRecDepth 100000 in
set_option maxHeartbeats 8000000 in
theorem nearNone_walk (lo hi : Int) (w : World) (_h : I64 lo ∧ I64 hi) :
    Calls Try.prog 28 #[.agg #[.int .i64 lo, .int .i64 hi]] w (LawEnd w) := by
  clear _h
  have HI := hid (fun A B C W (hy : RY W A B none_) (hr : RdS W C [⟨lo, hi⟩]) => bound_any A B C none_ [⟨lo, hi⟩] 1 1 1 W hy hr)
  have HG := hid (fun A B C W (hy : RY W A B none_) (hr : RdS W C [⟨lo, hi⟩]) => pull_any A B C none_ [⟨lo, hi⟩] 1 1 1 W hy hr)
  have HS := hid (fun A W (hr : RdT W A [⟨3, 2, 1, 0⟩]) => nsteep_any [⟨3, 2, 1, 0⟩] A 1 2 0 W hr)
  cases hck : checkF ⟨lo, hi⟩ with
  | some e =>
    have hE := none_bound_bad hck
    have HE := hid hE
    have HQ := hid (show pullF none_ [⟨lo, hi⟩] = .error e by unfold pullF; rw [hE])
    have HC := hid hck
    clear hck hE
    go_enter Try.func28, Try.ntmps28
    go_wp2_with fail
    go_region_law (go_simp; first | ((go_at_call 71; refine (none_any _).mono ?_; rintro e w1 ⟨x1, v1, -, rfl, ⟨A1, B1, rfl, hy1⟩, hb1⟩); have Hy1 := hid hy1; clear hy1; obtain ⟨hc1, hf1⟩ := bcell hb1; have hle1 := Up.le hb1; (try simp at hle1); have q0 := Nat.lt_of_succ_le hle1; (have q1 : w.heap.size < w1.heap.size := (by omega)); clear hle1) | ((go_at_call 85; refine (HI.out _ _ _ _ (Hy1.out.up (by (repeat (first | (with_reducible exact Up.refl _) | (with_reducible assumption) | (with_reducible refine Up.alloc ?_ _) | (with_reducible refine Up.drew ?_) | ((with_reducible refine Up.set ?_ ?_ _); rotate_left; focus (first | omega | (simp; done) | (simp; omega))) | (with_reducible refine Up.drewN ?_ _) | (with_reducible refine Up.call ?_ (by with_reducible assumption)))))) (rds1 (by go_simp) (by go_simp))).mono ?_; rintro e w2 ⟨x2, hx2, rfl, hb2⟩); rw [HE.out] at hx2; subst hx2; obtain ⟨hc2, hf2⟩ := bcell hb2; (have p1 : w.heap.size < w2.heap.size := (by have hle := Up.le hb2; (try simp at hle); omega)); have d0 : w2.cell? ⟨w.heap.size, 0, none⟩ = some (.int .i64 lo) := (by go_simp); have d1 : w2.cell? ⟨w.heap.size, 1, none⟩ = some (.int .i64 hi) := (by go_simp); have d2 : ∀ o, w2.frozen? ⟨w.heap.size, o, none⟩ = false := (by intro o; go_simp); have hU2 : Up w w2 := (by (repeat (first | (with_reducible exact Up.refl _) | (with_reducible assumption) | (with_reducible refine Up.alloc ?_ _) | (with_reducible refine Up.drew ?_) | ((with_reducible refine Up.set ?_ ?_ _); rotate_left; focus (first | omega | (simp; done) | (simp; omega))) | (with_reducible refine Up.drewN ?_ _) | (with_reducible refine Up.call ?_ (by with_reducible assumption))))); clear hc1 hf1 hc2 hf2 hb1 hb2))
    all_goals go_wp2_with fail
    all_goals go_region_law (go_simp; first | ((go_at_call 71; refine (none_any _).mono ?_; rintro e w3 ⟨x3, v3, -, rfl, ⟨A3, B3, rfl, hy3⟩, hb3⟩); have Hy3 := hid hy3; clear hy3; obtain ⟨hc3, hf3⟩ := bcell hb3; have hu23 : Up w2 w3 := (by (repeat (first | (with_reducible exact Up.refl _) | (with_reducible assumption) | (with_reducible refine Up.alloc ?_ _) | (with_reducible refine Up.drew ?_) | ((with_reducible refine Up.set ?_ ?_ _); rotate_left; focus (first | omega | (simp; done) | (simp; omega))) | (with_reducible refine Up.drewN ?_ _) | (with_reducible refine Up.call ?_ (by with_reducible assumption))))); obtain ⟨hk3, hl3⟩ := bcell hu23; have hle3 := Up.le hb3; (try simp at hle3); (have r1 : w2.heap.size ≤ w3.heap.size := (by omega)); (have r2 : w.heap.size < w3.heap.size := (by omega)); (try have r0 := Nat.lt_of_succ_le hle3); clear hle3) | ((go_at_call 86; refine (HG.out _ _ _ _ (Hy3.out.up (by (repeat (first | (with_reducible exact Up.refl _) | (with_reducible assumption) | (with_reducible refine Up.alloc ?_ _) | (with_reducible refine Up.drew ?_) | ((with_reducible refine Up.set ?_ ?_ _); rotate_left; focus (first | omega | (simp; done) | (simp; omega))) | (with_reducible refine Up.drewN ?_ _) | (with_reducible refine Up.call ?_ (by with_reducible assumption)))))) (rds1 (by go_simp) (by go_simp))).mono ?_; rintro e w4 ⟨x4, hx4, rfl, hb4⟩); rw [HQ.out] at hx4; subst hx4; obtain ⟨hc4, hf4⟩ := bcell hb4; (have p4 : w.heap.size < w4.heap.size := (by have hle := Up.le hb4; (try simp at hle); omega)); have e0 : w4.cell? ⟨w.heap.size, 0, none⟩ = some (.int .i64 lo) := (by go_simp); have e1 : w4.cell? ⟨w.heap.size, 1, none⟩ = some (.int .i64 hi) := (by go_simp); have e2 : ∀ o, w4.frozen? ⟨w.heap.size, o, none⟩ = false := (by intro o; go_simp); have hU4 : Up w w4 := (hU2.call hu23).call (by (repeat (first | (with_reducible exact Up.refl _) | (with_reducible assumption) | (with_reducible refine Up.alloc ?_ _) | (with_reducible refine Up.drew ?_) | ((with_reducible refine Up.set ?_ ?_ _); rotate_left; focus (first | omega | (simp; done) | (simp; omega))) | (with_reducible refine Up.drewN ?_ _) | (with_reducible refine Up.call ?_ (by with_reducible assumption))))); clear hc3 hf3 hc4 hf4 hb3 hb4 hk3 hl3))
    all_goals
      go_wp2_with (first
                        | ((go_at_call 36; refine (check_any _ _ _).mono ?_; rintro e w5 ⟨x5, hx5, rfl, hb5⟩); rw [HC.out] at hx5; subst hx5))
      go_ret
      refine LawEnd.mk rfl ?_
      (repeat (first | (with_reducible exact Up.refl _) | (with_reducible assumption) | (with_reducible refine Up.alloc ?_ _) | (with_reducible refine Up.drew ?_) | ((with_reducible refine Up.set ?_ ?_ _); rotate_left; focus (first | omega | (simp; done) | (simp; omega))) | (with_reducible refine Up.drewN ?_ _) | (with_reducible refine Up.call ?_ (by with_reducible assumption))))
  | none =>
    have hr := checkF_none.1 hck
    have hE := none_bound hr
    have HE := hid hE
    have HQ := hid (show pullF none_ [⟨lo, hi⟩] = .ok false by unfold pullF; rw [hE]; dsimp only; rw [none_is hr]; rfl)
    clear hck hE hr
    go_enter Try.func28, Try.ntmps28
    go_wp2_with fail
    go_region_law (go_simp; first | ((go_at_call 71; refine (none_any _).mono ?_; rintro e w1 ⟨x1, v1, -, rfl, ⟨A1, B1, rfl, hy1⟩, hb1⟩); have Hy1 := hid hy1; clear hy1; obtain ⟨hc1, hf1⟩ := bcell hb1; have hle1 := Up.le hb1; (try simp at hle1); have q0 := Nat.lt_of_succ_le hle1; (have q1 : w.heap.size < w1.heap.size := (by omega)); clear hle1) | ((go_at_call 85; refine (HI.out _ _ _ _ (Hy1.out.up (by (repeat (first | (with_reducible exact Up.refl _) | (with_reducible assumption) | (with_reducible refine Up.alloc ?_ _) | (with_reducible refine Up.drew ?_) | ((with_reducible refine Up.set ?_ ?_ _); rotate_left; focus (first | omega | (simp; done) | (simp; omega))) | (with_reducible refine Up.drewN ?_ _) | (with_reducible refine Up.call ?_ (by with_reducible assumption)))))) (rds1 (by go_simp) (by go_simp))).mono ?_; rintro e w2 ⟨x2, hx2, rfl, hb2⟩); rw [HE.out] at hx2; subst hx2; obtain ⟨hc2, hf2⟩ := bcell hb2; (have p1 : w.heap.size < w2.heap.size := (by have hle := Up.le hb2; (try simp at hle); omega)); have d0 : w2.cell? ⟨w.heap.size, 0, none⟩ = some (.int .i64 lo) := (by go_simp); have d1 : w2.cell? ⟨w.heap.size, 1, none⟩ = some (.int .i64 hi) := (by go_simp); have d2 : ∀ o, w2.frozen? ⟨w.heap.size, o, none⟩ = false := (by intro o; go_simp); have hU2 : Up w w2 := (by (repeat (first | (with_reducible exact Up.refl _) | (with_reducible assumption) | (with_reducible refine Up.alloc ?_ _) | (with_reducible refine Up.drew ?_) | ((with_reducible refine Up.set ?_ ?_ _); rotate_left; focus (first | omega | (simp; done) | (simp; omega))) | (with_reducible refine Up.drewN ?_ _) | (with_reducible refine Up.call ?_ (by with_reducible assumption))))); clear hc1 hf1 hc2 hf2 hb1 hb2))
    all_goals go_wp2_with fail
    all_goals go_region_law (go_simp; first | ((go_at_call 71; refine (none_any _).mono ?_; rintro e w3 ⟨x3, v3, -, rfl, ⟨A3, B3, rfl, hy3⟩, hb3⟩); have Hy3 := hid hy3; clear hy3; obtain ⟨hc3, hf3⟩ := bcell hb3; have hu23 : Up w2 w3 := (by (repeat (first | (with_reducible exact Up.refl _) | (with_reducible assumption) | (with_reducible refine Up.alloc ?_ _) | (with_reducible refine Up.drew ?_) | ((with_reducible refine Up.set ?_ ?_ _); rotate_left; focus (first | omega | (simp; done) | (simp; omega))) | (with_reducible refine Up.drewN ?_ _) | (with_reducible refine Up.call ?_ (by with_reducible assumption))))); obtain ⟨hk3, hl3⟩ := bcell hu23; have hle3 := Up.le hb3; (try simp at hle3); (have r1 : w2.heap.size ≤ w3.heap.size := (by omega)); (have r2 : w.heap.size < w3.heap.size := (by omega)); (try have r0 := Nat.lt_of_succ_le hle3); clear hle3) | ((go_at_call 86; refine (HG.out _ _ _ _ (Hy3.out.up (by (repeat (first | (with_reducible exact Up.refl _) | (with_reducible assumption) | (with_reducible refine Up.alloc ?_ _) | (with_reducible refine Up.drew ?_) | ((with_reducible refine Up.set ?_ ?_ _); rotate_left; focus (first | omega | (simp; done) | (simp; omega))) | (with_reducible refine Up.drewN ?_ _) | (with_reducible refine Up.call ?_ (by with_reducible assumption)))))) (rds1 (by go_simp) (by go_simp))).mono ?_; rintro e w4 ⟨x4, hx4, rfl, hb4⟩); rw [HQ.out] at hx4; subst hx4; obtain ⟨hc4, hf4⟩ := bcell hb4; (have p4 : w.heap.size < w4.heap.size := (by have hle := Up.le hb4; (try simp at hle); omega)); have e0 : w4.cell? ⟨w.heap.size, 0, none⟩ = some (.int .i64 lo) := (by go_simp); have e1 : w4.cell? ⟨w.heap.size, 1, none⟩ = some (.int .i64 hi) := (by go_simp); have e2 : ∀ o, w4.frozen? ⟨w.heap.size, o, none⟩ = false := (by intro o; go_simp); have hU4 : Up w w4 := (hU2.call hu23).call (by (repeat (first | (with_reducible exact Up.refl _) | (with_reducible assumption) | (with_reducible refine Up.alloc ?_ _) | (with_reducible refine Up.drew ?_) | ((with_reducible refine Up.set ?_ ?_ _); rotate_left; focus (first | omega | (simp; done) | (simp; omega))) | (with_reducible refine Up.drewN ?_ _) | (with_reducible refine Up.call ?_ (by with_reducible assumption))))); clear hc3 hf3 hc4 hf4 hb3 hb4 hk3 hl3))
    all_goals
      go_wp2_with (first
                        | ((go_at_call 87; refine (HS.out _ _ (rdt1 (by go_simp) (by go_simp) (by go_simp) (by go_simp))).mono ?_; rintro e w5 ⟨x5, v5, hx5, rfl, hv5, hb5⟩); rw [fact_steep] at hx5; subst hx5; obtain ⟨g5, o5, c5, rfl, lg5, cg0, cg1, cg2, hc5⟩ := tlE_one hv5; clear hv5))
      go_ret
      refine LawEnd.mk rfl ?_
      (repeat (first | (with_reducible exact Up.refl _) | (with_reducible assumption) | (with_reducible refine Up.alloc ?_ _) | (with_reducible refine Up.drew ?_) | ((with_reducible refine Up.set ?_ ?_ _); rotate_left; focus (first | omega | (simp; done) | (simp; omega))) | (with_reducible refine Up.drewN ?_ _) | (with_reducible refine Up.call ?_ (by with_reducible assumption))))
set_option maxRecDepth 100000 in
theorem nearNone_lifted (os : Os) (started : os.Started) (H : Type) (enc : TypeId × Value → H) :
    ReturnsInHanded {} Try.checked os 28 .any (Rows.nearNoneSpec.pre6 enc Try.prog Try.f28 Rows.nearNoneRow.domain false) (Rows.nearNoneSpec.post enc Try.prog Try.f28 false true false false) := by
  refine returnsInHanded_of_change (C := Try.checked) Try.own started (by kernel_rfl) Try.func28
    (ChangeSpec.witness6 (enc := enc) (C := Try.checked) false ⟨#[], #[.agg #[.int .i64 0, .int .i64 0]], []⟩ 8 (by kernel_rfl) (by kernel_rfl) (by kernel_rfl) (by kernel_rfl)) ?_
  intro W base args ds gs before hval0 hW hcnd _
  have hval : ∀ (j : Nat) t v, Try.f28.params[j]? = some t → args[j]? = some v → Value.okWide Try.prog W .any base t v := hval0
  have hW' := hW
  obtain ⟨p, q, hA0, hV, rfl, hfz, hnd⟩ := hW
  have hA : DataW.TrodAll enc Try.prog W 0 (fun _ => true) true Try.f28.params.toList args.toList ds p := hA0
  rw [Try.params28] at hA hval
  obtain ⟨v0, d0, rfl, rfl, h0⟩ := trodAll_one hA
  obtain ⟨rfl, rfl⟩ := trodVars_none hV
  obtain ⟨lo0, hi0, rfl, w0a, w0b⟩ := open_span (ti := 3) Try.underlying27 rfl rfl Try.underlying3 (by kernel_rfl) Try.cellsSpan (hval 0 27 _ rfl rfl) h0
  clear hA0 hval0
  refine (nearNone_walk lo0 hi0 W ⟨wf_I64 w0a, wf_I64 w0b⟩).mono fun e W' ⟨he, hu⟩ => ?_
  subst he
  exact ⟨_, rfl, law_post Try.laidOut rfl rfl Try.underlying4 (fun t ht => by simp [Try.params28] at ht; (try rcases ht with rfl); all_goals (first | (subst ht; exact ⟨by kernel_rfl, of_decide_eq_true (by kernel_rfl)⟩) | exact ⟨by kernel_rfl, of_decide_eq_true (by kernel_rfl)⟩)) hW' rfl rfl rfl hu⟩
theorem nearNone_k1 : (Rows.nearNoneRow.inPlace == Try.pinned.checked.prog.inPlace 28) = true := by kernel_rfl
theorem nearNone_k2 : (Rows.nearNoneRow.unfollowed == Try.pinned.checked.prog.unfollowed 28) = true := by kernel_rfl
theorem nearNone_k3 : (Rows.nearNoneRow.recurses == Try.pinned.checked.prog.recurses 28) = true := by kernel_rfl
theorem nearNone_k4 : (Rows.nearNoneRow.named == Try.pinned.checked.prog.varsNamed 28) = true := by kernel_rfl
theorem nearNone_facts : joinedFacts Try.pinned.checked.prog 28 Try.f28 Rows.nearNoneSpec Rows.nearNoneRow = true :=
  joined_of _ _ _ _ _ Try.g1 Try.g2 Try.g3 Try.g4 Try.g5 Try.g6 Try.g7 Try.g8 Try.g9 nearNone_k1 nearNone_k2 nearNone_k3 nearNone_k4 (by kernel_rfl)
theorem nearNone_holds : Rows.NearNoneSaid :=
  OpenClaim.holds_of_wide 28 Try.f28 rfl rfl rfl rfl rfl rfl rfl ⟨rfl, rfl, rfl, rfl, rfl⟩ rfl rfl rfl rfl rfl (by kernel_rfl) Try.func28 nearNone_facts
    (of_decide_eq_true (by kernel_rfl)) (by unfold Func.isWrapper; rw [if_neg (by decide +kernel)]; exact ⟨rfl, rfl⟩)
    (fun os started H enc _ => nearNone_lifted os started H enc)
#print axioms nearNone_holds
end Go.Proofs.Ytmnbgcbiaapldaa
