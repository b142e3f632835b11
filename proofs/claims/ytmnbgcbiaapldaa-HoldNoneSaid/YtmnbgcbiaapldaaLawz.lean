/- HoldNone: where nothing changes any box holds, and need not grow. No condition. -/
import Derived.Test.YtmnbgcbiaapldaaHoldb
import Derived.Test.YtmnbgcbiaapldaaNone
import Derived.Test.YtmnbgcbiaapldaaSame
import Derived.Test.YtmnbgcbiaapldaaRowd
import Derived.Test.YtmnbgcbiaapldaaFacts

set_option linter.unusedVariables false
set_option linter.unusedSimpArgs false
namespace Go.Proofs.Ytmnbgcbiaapldaa
open Go.ChangeShapes Go.WideShapes Go.ChangeAt Go.RowKit Go.Joins Go.Deep

theorem slE_one2 {w : World} {s : Sp} {v : Value} (h : slE w (.ok [s]) v) : ∃ b o c, v = .tuple #[.slice (some ⟨b, o, none⟩) 1 c, .nilIface] ∧ b < w.heap.size ∧ w.cell? ⟨b, o, none⟩ = some (.int .i64 s.lo) ∧ w.cell? ⟨b, o + 1, none⟩ = some (.int .i64 s.hi) ∧ 1 ≤ c := by
  obtain ⟨A, c, rfl, hr, hc⟩ := slE_ok h
  obtain ⟨b, o, rfl, hb, k⟩ := hr (by simp)
  obtain ⟨k1, k2⟩ := k 0 (by simp)
  exact ⟨b, o, c, rfl, hb, k1, k2, hc⟩
set_option maxRecDepth 100000 in
set_option maxHeartbeats 8000000 in
theorem holdNone_walk (lo hi n : Int) (w : World) (_h : I64 lo ∧ I64 hi) (_hn : I64 n) :
    Calls Try.prog 21 #[.agg #[.int .i64 lo, .int .i64 hi], .int .i64 n] w (LawEnd w) := by
  clear _h _hn
  have HI := hid (fun A B C W (hy : RY W A B none_) (hr : RdS W C [⟨lo, hi⟩]) => his_any A B C none_ [⟨lo, hi⟩] 1 1 1 W hy hr)
  have HG := hid (fun A B C W (hy : RY W A B none_) (hr : RdS W C [⟨lo, hi⟩]) => grow_any A B C none_ [⟨lo, hi⟩] n 3 1 1 1 W hy hr (by simp))
  cases hck : checkF ⟨lo, hi⟩ with
  | some e =>
    have HE := hid (show isF none_ [⟨lo, hi⟩] = .error e by unfold isF; rw [none_of, hck])
    have HC := hid hck
    clear hck
    go_enter Try.func21, Try.ntmps21
    go_wp2_with fail
    go_region_law (go_simp; first | ((go_at_call 71; refine (none_any _).mono ?_; rintro e w1 ⟨x1, v1, -, rfl, ⟨A1, B1, rfl, hy1⟩, hb1⟩); have Hy1 := hid hy1; clear hy1; obtain ⟨hc1, hf1⟩ := bcell hb1; have hle1 := Up.le hb1; (try simp at hle1); have q0 := Nat.lt_of_succ_le hle1; (have q1 : w.heap.size < w1.heap.size := (by omega)); clear hle1) | ((go_at_call 75; refine (HI.out _ _ _ _ (Hy1.out.up (by (repeat (first | (with_reducible exact Up.refl _) | (with_reducible assumption) | (with_reducible refine Up.alloc ?_ _) | (with_reducible refine Up.drew ?_) | ((with_reducible refine Up.set ?_ ?_ _); rotate_left; focus (first | omega | (simp; done) | (simp; omega))) | (with_reducible refine Up.drewN ?_ _) | (with_reducible refine Up.call ?_ (by with_reducible assumption)))))) (rds1 (by go_simp) (by go_simp))).mono ?_; rintro e w2 ⟨x2, hx2, rfl, hb2⟩); rw [HE.out] at hx2; subst hx2; obtain ⟨hc2, hf2⟩ := bcell hb2; (have _ : w.heap.size < w2.heap.size := (by have hle := Up.le hb2; (try simp at hle); omega))))
    all_goals
      go_wp2_with (first
                        | ((go_at_call 36; refine (check_any _ _ _).mono ?_; rintro e w5 ⟨x5, hx5, rfl, hb5⟩); rw [HC.out] at hx5; subst hx5))
      go_ret
      refine LawEnd.mk rfl ?_
      (repeat (first | (with_reducible exact Up.refl _) | (with_reducible assumption) | (with_reducible refine Up.alloc ?_ _) | (with_reducible refine Up.drew ?_) | ((with_reducible refine Up.set ?_ ?_ _); rotate_left; focus (first | omega | (simp; done) | (simp; omega))) | (with_reducible refine Up.drewN ?_ _) | (with_reducible refine Up.call ?_ (by with_reducible assumption))))
  | none =>
    have hr := checkF_none.1 hck
    have HE := hid (show isF none_ [⟨lo, hi⟩] = .ok true from none_is hr)
    have Hr := hid hr
    clear hck hr
    have hor : (decide (n < 0) = true) ∨ (decide (n < 0) = false ∧ decide (1000000000 < n) = true) ∨ (decide (n < 0) = false ∧ decide (1000000000 < n) = false) := by
      by_cases q1 : n < 0 <;> by_cases q2 : 1000000000 < n <;> simp only [q1, q2, decide_true, decide_false] <;> simp
    rcases hor with d1 | ⟨d1, d2⟩ | ⟨d1, d2⟩
    rotate_left 2
    · have q1 : ¬ (n < 0) := by simpa using d1
      have q2 : ¬ (1000000000 < n) := by simpa using d2
      have HQ := hid (show growF none_ [⟨lo, hi⟩] n 3 = .ok [⟨lo, hi⟩] from none_grow Hr.out (by omega) (by omega))
      go_enter Try.func21, Try.ntmps21
      go_wp2_with fail
      go_region_law (go_simp; first | ((go_at_call 71; refine (none_any _).mono ?_; rintro e w1 ⟨x1, v1, -, rfl, ⟨A1, B1, rfl, hy1⟩, hb1⟩); have Hy1 := hid hy1; clear hy1; obtain ⟨hc1, hf1⟩ := bcell hb1; have hle1 := Up.le hb1; (try simp at hle1); have q0 := Nat.lt_of_succ_le hle1; (have q1 : w.heap.size < w1.heap.size := (by omega)); clear hle1) | ((go_at_call 75; refine (HI.out _ _ _ _ (Hy1.out.up (by (repeat (first | (with_reducible exact Up.refl _) | (with_reducible assumption) | (with_reducible refine Up.alloc ?_ _) | (with_reducible refine Up.drew ?_) | ((with_reducible refine Up.set ?_ ?_ _); rotate_left; focus (first | omega | (simp; done) | (simp; omega))) | (with_reducible refine Up.drewN ?_ _) | (with_reducible refine Up.call ?_ (by with_reducible assumption)))))) (rds1 (by go_simp) (by go_simp))).mono ?_; rintro e w2 ⟨x2, hx2, rfl, hb2⟩); rw [HE.out] at hx2; subst hx2; obtain ⟨hc2, hf2⟩ := bcell hb2; (have p1 : w.heap.size < w2.heap.size := (by have hle := Up.le hb2; (try simp at hle); omega)); have d0 : w2.cell? ⟨w.heap.size, 0, none⟩ = some (.int .i64 lo) := (by go_simp); have d1 : w2.cell? ⟨w.heap.size, 1, none⟩ = some (.int .i64 hi) := (by go_simp); have d2 : ∀ o, w2.frozen? ⟨w.heap.size, o, none⟩ = false := (by intro o; go_simp); have hU2 : Up w w2 := (by (repeat (first | (with_reducible exact Up.refl _) | (with_reducible assumption) | (with_reducible refine Up.alloc ?_ _) | (with_reducible refine Up.drew ?_) | ((with_reducible refine Up.set ?_ ?_ _); rotate_left; focus (first | omega | (simp; done) | (simp; omega))) | (with_reducible refine Up.drewN ?_ _) | (with_reducible refine Up.call ?_ (by with_reducible assumption))))); clear hc1 hf1 hc2 hf2 hb1 hb2))
      all_goals go_wp2_with fail
      all_goals go_region_law (go_simp; first | ((go_at_call 71; refine (none_any _).mono ?_; rintro e w3 ⟨x3, v3, -, rfl, ⟨A3, B3, rfl, hy3⟩, hb3⟩); have Hy3 := hid hy3; clear hy3; obtain ⟨hc3, hf3⟩ := bcell hb3; have hu23 : Up w2 w3 := (by (repeat (first | (with_reducible exact Up.refl _) | (with_reducible assumption) | (with_reducible refine Up.alloc ?_ _) | (with_reducible refine Up.drew ?_) | ((with_reducible refine Up.set ?_ ?_ _); rotate_left; focus (first | omega | (simp; done) | (simp; omega))) | (with_reducible refine Up.drewN ?_ _) | (with_reducible refine Up.call ?_ (by with_reducible assumption))))); obtain ⟨hk3, hl3⟩ := bcell hu23; have hle3 := Up.le hb3; (try simp at hle3); (have r1 : w2.heap.size ≤ w3.heap.size := (by omega)); (have r2 : w.heap.size < w3.heap.size := (by omega)); (try have r0 := Nat.lt_of_succ_le hle3); clear hle3) | ((go_at_call 76; refine (HG.out _ _ _ _ (Hy3.out.up (by (repeat (first | (with_reducible exact Up.refl _) | (with_reducible assumption) | (with_reducible refine Up.alloc ?_ _) | (with_reducible refine Up.drew ?_) | ((with_reducible refine Up.set ?_ ?_ _); rotate_left; focus (first | omega | (simp; done) | (simp; omega))) | (with_reducible refine Up.drewN ?_ _) | (with_reducible refine Up.call ?_ (by with_reducible assumption)))))) (rds1 (by go_simp) (by go_simp))).mono ?_; rintro e w4 ⟨x4, v4, hx4, rfl, hv4, hb4⟩); rw [HQ.out] at hx4; subst hx4; (first | (obtain rfl := slE_error hv4; clear hv4) | (obtain ⟨g4, o4, c4, rfl, lg4, cg0, cg1, hc44⟩ := slE_one2 hv4; clear hv4)); obtain ⟨hc4, hf4⟩ := bcell hb4; (have p4 : w.heap.size < w4.heap.size := (by have hle := Up.le hb4; (try simp at hle); omega)); have e0 : w4.cell? ⟨w.heap.size, 0, none⟩ = some (.int .i64 lo) := (by go_simp); have e1 : w4.cell? ⟨w.heap.size, 1, none⟩ = some (.int .i64 hi) := (by go_simp); have e2 : ∀ o, w4.frozen? ⟨w.heap.size, o, none⟩ = false := (by intro o; go_simp); have hU4 : Up w w4 := (hU2.call hu23).call (by (repeat (first | (with_reducible exact Up.refl _) | (with_reducible assumption) | (with_reducible refine Up.alloc ?_ _) | (with_reducible refine Up.drew ?_) | ((with_reducible refine Up.set ?_ ?_ _); rotate_left; focus (first | omega | (simp; done) | (simp; omega))) | (with_reducible refine Up.drewN ?_ _) | (with_reducible refine Up.call ?_ (by with_reducible assumption))))); clear hc3 hf3 hc4 hf4 hb3 hb4 hk3 hl3))
      all_goals go_wp2_with fail
      all_goals go_quiet (fail)
      all_goals go_wp2
      all_goals
        go_ret
        refine LawEnd.mk (by simp) ?_
        (repeat (first | (with_reducible exact Up.refl _) | (with_reducible assumption) | (with_reducible refine Up.alloc ?_ _) | (with_reducible refine Up.drew ?_) | ((with_reducible refine Up.set ?_ ?_ _); rotate_left; focus (first | omega | (simp; done) | (simp; omega))) | (with_reducible refine Up.drewN ?_ _) | (with_reducible refine Up.call ?_ (by with_reducible assumption))))
    all_goals
      have HQ := hid (show growF none_ [⟨lo, hi⟩] n 3 = .error 1 from none_grow_bad (by simp at *; omega))
      go_enter Try.func21, Try.ntmps21
      go_wp2_with fail
      go_region_law (go_simp; first | ((go_at_call 71; refine (none_any _).mono ?_; rintro e w1 ⟨x1, v1, -, rfl, ⟨A1, B1, rfl, hy1⟩, hb1⟩); have Hy1 := hid hy1; clear hy1; obtain ⟨hc1, hf1⟩ := bcell hb1; have hle1 := Up.le hb1; (try simp at hle1); have q0 := Nat.lt_of_succ_le hle1; (have q1 : w.heap.size < w1.heap.size := (by omega)); clear hle1) | ((go_at_call 75; refine (HI.out _ _ _ _ (Hy1.out.up (by (repeat (first | (with_reducible exact Up.refl _) | (with_reducible assumption) | (with_reducible refine Up.alloc ?_ _) | (with_reducible refine Up.drew ?_) | ((with_reducible refine Up.set ?_ ?_ _); rotate_left; focus (first | omega | (simp; done) | (simp; omega))) | (with_reducible refine Up.drewN ?_ _) | (with_reducible refine Up.call ?_ (by with_reducible assumption)))))) (rds1 (by go_simp) (by go_simp))).mono ?_; rintro e w2 ⟨x2, hx2, rfl, hb2⟩); rw [HE.out] at hx2; subst hx2; obtain ⟨hc2, hf2⟩ := bcell hb2; (have p1 : w.heap.size < w2.heap.size := (by have hle := Up.le hb2; (try simp at hle); omega)); have d0 : w2.cell? ⟨w.heap.size, 0, none⟩ = some (.int .i64 lo) := (by go_simp); have d1 : w2.cell? ⟨w.heap.size, 1, none⟩ = some (.int .i64 hi) := (by go_simp); have d2 : ∀ o, w2.frozen? ⟨w.heap.size, o, none⟩ = false := (by intro o; go_simp); have hU2 : Up w w2 := (by (repeat (first | (with_reducible exact Up.refl _) | (with_reducible assumption) | (with_reducible refine Up.alloc ?_ _) | (with_reducible refine Up.drew ?_) | ((with_reducible refine Up.set ?_ ?_ _); rotate_left; focus (first | omega | (simp; done) | (simp; omega))) | (with_reducible refine Up.drewN ?_ _) | (with_reducible refine Up.call ?_ (by with_reducible assumption))))); clear hc1 hf1 hc2 hf2 hb1 hb2))
      all_goals go_wp2_with fail
      all_goals go_region_law (go_simp; first | ((go_at_call 71; refine (none_any _).mono ?_; rintro e w3 ⟨x3, v3, -, rfl, ⟨A3, B3, rfl, hy3⟩, hb3⟩); have Hy3 := hid hy3; clear hy3; obtain ⟨hc3, hf3⟩ := bcell hb3; have hu23 : Up w2 w3 := (by (repeat (first | (with_reducible exact Up.refl _) | (with_reducible assumption) | (with_reducible refine Up.alloc ?_ _) | (with_reducible refine Up.drew ?_) | ((with_reducible refine Up.set ?_ ?_ _); rotate_left; focus (first | omega | (simp; done) | (simp; omega))) | (with_reducible refine Up.drewN ?_ _) | (with_reducible refine Up.call ?_ (by with_reducible assumption))))); obtain ⟨hk3, hl3⟩ := bcell hu23; have hle3 := Up.le hb3; (try simp at hle3); (have r1 : w2.heap.size ≤ w3.heap.size := (by omega)); (have r2 : w.heap.size < w3.heap.size := (by omega)); (try have r0 := Nat.lt_of_succ_le hle3); clear hle3) | ((go_at_call 76; refine (HG.out _ _ _ _ (Hy3.out.up (by (repeat (first | (with_reducible exact Up.refl _) | (with_reducible assumption) | (with_reducible refine Up.alloc ?_ _) | (with_reducible refine Up.drew ?_) | ((with_reducible refine Up.set ?_ ?_ _); rotate_left; focus (first | omega | (simp; done) | (simp; omega))) | (with_reducible refine Up.drewN ?_ _) | (with_reducible refine Up.call ?_ (by with_reducible assumption)))))) (rds1 (by go_simp) (by go_simp))).mono ?_; rintro e w4 ⟨x4, v4, hx4, rfl, hv4, hb4⟩); rw [HQ.out] at hx4; subst hx4; (first | (obtain rfl := slE_error hv4; clear hv4) | (obtain ⟨g4, o4, c4, rfl, lg4, cg0, cg1, hc44⟩ := slE_one2 hv4; clear hv4)); obtain ⟨hc4, hf4⟩ := bcell hb4; (have p4 : w.heap.size < w4.heap.size := (by have hle := Up.le hb4; (try simp at hle); omega)); have e0 : w4.cell? ⟨w.heap.size, 0, none⟩ = some (.int .i64 lo) := (by go_simp); have e1 : w4.cell? ⟨w.heap.size, 1, none⟩ = some (.int .i64 hi) := (by go_simp); have e2 : ∀ o, w4.frozen? ⟨w.heap.size, o, none⟩ = false := (by intro o; go_simp); have hU4 : Up w w4 := (hU2.call hu23).call (by (repeat (first | (with_reducible exact Up.refl _) | (with_reducible assumption) | (with_reducible refine Up.alloc ?_ _) | (with_reducible refine Up.drew ?_) | ((with_reducible refine Up.set ?_ ?_ _); rotate_left; focus (first | omega | (simp; done) | (simp; omega))) | (with_reducible refine Up.drewN ?_ _) | (with_reducible refine Up.call ?_ (by with_reducible assumption))))); clear hc3 hf3 hc4 hf4 hb3 hb4 hk3 hl3))
      all_goals go_wp2
      all_goals
        go_ret
        refine LawEnd.mk rfl ?_
        (repeat (first | (with_reducible exact Up.refl _) | (with_reducible assumption) | (with_reducible refine Up.alloc ?_ _) | (with_reducible refine Up.drew ?_) | ((with_reducible refine Up.set ?_ ?_ _); rotate_left; focus (first | omega | (simp; done) | (simp; omega))) | (with_reducible refine Up.drewN ?_ _) | (with_reducible refine Up.call ?_ (by with_reducible assumption))))
set_option maxRecDepth 100000 in
theorem holdNone_lifted (os : Os) (started : os.Started) (H : Type) (enc : TypeId × Value → H) :
    ReturnsInHanded {} Try.checked os 21 .any (Rows.holdNoneSpec.pre6 enc Try.prog Try.f21 Rows.holdNoneRow.domain false) (Rows.holdNoneSpec.post enc Try.prog Try.f21 false true false false) := by
  refine returnsInHanded_of_change (C := Try.checked) Try.own started (by kernel_rfl) Try.func21
    (ChangeSpec.witness6 (enc := enc) (C := Try.checked) false ⟨#[], #[.agg #[.int .i64 0, .int .i64 0], .int .i64 0], []⟩ 8 (by kernel_rfl) (by kernel_rfl) (by kernel_rfl) (by kernel_rfl)) ?_
  intro W base args ds gs before hval0 hW hcnd _
  have hval : ∀ (j : Nat) t v, Try.f21.params[j]? = some t → args[j]? = some v → Value.okWide Try.prog W .any base t v := hval0
  have hW' := hW
  obtain ⟨p, q, hA0, hV, rfl, hfz, hnd⟩ := hW
  have hA : DataW.TrodAll enc Try.prog W 0 (fun _ => true) true Try.f21.params.toList args.toList ds p := hA0
  rw [Try.params21] at hA hval
  obtain ⟨v0, v1, d0, d1, p0, p1, rfl, rfl, rfl, h0, h1⟩ := trodAll_two hA
  obtain ⟨rfl, rfl⟩ := trodVars_none hV
  obtain ⟨lo0, hi0, rfl, w0a, w0b⟩ := open_span (ti := 3) Try.underlying27 rfl rfl Try.underlying3 (by kernel_rfl) Try.cellsSpan (hval 0 27 _ rfl rfl) h0
  obtain ⟨n1, rfl, w1⟩ := open_i64 Try.underlying3 (hval 1 3 _ rfl rfl) h1
  clear hA0 hval0
  refine (holdNone_walk lo0 hi0 n1 W ⟨wf_I64 w0a, wf_I64 w0b⟩ w1).mono fun e W' ⟨he, hu⟩ => ?_
  subst he
  exact ⟨_, rfl, law_post Try.laidOut rfl rfl Try.underlying4 (fun t ht => by simp [Try.params21] at ht; (try rcases ht with rfl | rfl); all_goals (first | (subst ht; exact ⟨by kernel_rfl, of_decide_eq_true (by kernel_rfl)⟩) | exact ⟨by kernel_rfl, of_decide_eq_true (by kernel_rfl)⟩)) hW' rfl rfl rfl hu⟩
theorem holdNone_k1 : (Rows.holdNoneRow.inPlace == Try.pinned.checked.prog.inPlace 21) = true := by kernel_rfl
theorem holdNone_k2 : (Rows.holdNoneRow.unfollowed == Try.pinned.checked.prog.unfollowed 21) = true := by kernel_rfl
theorem holdNone_k3 : (Rows.holdNoneRow.recurses == Try.pinned.checked.prog.recurses 21) = true := by kernel_rfl
theorem holdNone_k4 : (Rows.holdNoneRow.named == Try.pinned.checked.prog.varsNamed 21) = true := by kernel_rfl
theorem holdNone_facts : joinedFacts Try.pinned.checked.prog 21 Try.f21 Rows.holdNoneSpec Rows.holdNoneRow = true :=
  joined_of _ _ _ _ _ Try.g1 Try.g2 Try.g3 Try.g4 Try.g5 Try.g6 Try.g7 Try.g8 Try.g9 holdNone_k1 holdNone_k2 holdNone_k3 holdNone_k4 (by kernel_rfl)
theorem holdNone_holds : Rows.HoldNoneSaid :=
  OpenClaim.holds_of_wide 21 Try.f21 rfl rfl rfl rfl rfl rfl rfl ⟨rfl, rfl, rfl, rfl, rfl⟩ rfl rfl rfl rfl rfl (by kernel_rfl) Try.func21 holdNone_facts
    (of_decide_eq_true (by kernel_rfl)) (by unfold Func.isWrapper; rw [if_neg (by decide +kernel)]; exact ⟨rfl, rfl⟩)
    (fun os started H enc _ => holdNone_lifted os started H enc)
#print axioms holdNone_holds
end Go.Proofs.Ytmnbgcbiaapldaa
