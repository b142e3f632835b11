/- RootLine: a line is nought where it crosses: that place is in a piece that is found, there are few, and one is sure to be there. -/
import Derived.Test.YtafhcppigpjcpaaDoorLine
import Derived.Test.YtafhcppigpjcpaaDoorRootb
import Derived.Test.YtafhcppigpjcpaaDoorRfs
import Derived.Test.YtafhcppigpjcpaaDoorRow
import Derived.Test.YtafhcppigpjcpaaDoorDoor
import Derived.LoopN

set_option linter.unusedVariables false
set_option linter.unusedSimpArgs false
namespace Go.Proofs.YtafhcppigpjcpaaDoor
open Go.ChangeShapes Go.WideShapes Go.ChangeAt Go.RowKit Go.Joins Go.Deep

set_option maxRecDepth 100000 in
set_option maxHeartbeats 4000000 in
theorem rootLine_walk (n least : Int) (w : World) (_hn : I64 n) (_hl : I64 least) (hd : Door w) :
    Calls Tryd.prog 13 #[.int .i64 n, .int .i64 least] w (LawEnd w) := by
  clear _hn _hl
  have Hd := hid hd
  have HF0 := hid (fun W => (show Calls Tryd.prog 47 #[.slice none 0 0, .agg #[.int .i64 0, .int .i64 0], .int .i64 1] W (RetR slE (findF [] ⟨0, 0⟩ 1) W) from Find_any none [] 0 0 0 1 W (by simp) (RdI.nil W none)))
  have H0 := hid (show findF [] ⟨0, 0⟩ 1 = .error 5 by rfl)
  have hor : decide (n < -100000) = true ∨ (decide (n < -100000) = false ∧ decide (100000 < n) = true) ∨ (decide (n < -100000) = false ∧ decide (100000 < n) = false ∧ decide (least < 1) = true) ∨
      (decide (n < -100000) = false ∧ decide (100000 < n) = false ∧ decide (least < 1) = false ∧ decide (1000 < least) = true) ∨
      ((decide (n < -100000) = false ∧ decide (100000 < n) = false ∧ decide (least < 1) = false ∧ decide (1000 < least) = false) ∧ (-100000 ≤ n ∧ n ≤ 100000) ∧ (1 ≤ least ∧ least ≤ 1000)) := by
    by_cases h1 : n < -100000
    · exact .inl (decide_eq_true h1)
    · by_cases h2 : 100000 < n
      · exact .inr (.inl ⟨decide_eq_false h1, decide_eq_true h2⟩)
      · by_cases h3 : least < 1
        · exact .inr (.inr (.inl ⟨decide_eq_false h1, decide_eq_false h2, decide_eq_true h3⟩))
        · by_cases h4 : 1000 < least
          · exact .inr (.inr (.inr (.inl ⟨decide_eq_false h1, decide_eq_false h2, decide_eq_false h3, decide_eq_true h4⟩)))
          · exact .inr (.inr (.inr (.inr ⟨⟨decide_eq_false h1, decide_eq_false h2, decide_eq_false h3, decide_eq_false h4⟩, by omega, by omega⟩)))
  clear hd
  rcases hor with d1 | ⟨d1, d2⟩ | ⟨d1, d2, d3⟩ | ⟨d1, d2, d3, d4⟩ | ⟨⟨d1, d2, d3, d4⟩, hn, hl⟩
  rotate_right 1
  · obtain ⟨L, hL, l1, l2, hin⟩ := line_roots hn hl
    have HF := hid (fun A W (hr : RdI W A [-n, 1000]) => (show Calls Tryd.prog 47 #[.slice A 2 2, .agg #[.int .i64 (-200000), .int .i64 200001], .int .i64 least] W (RetR slE (findF [-n, 1000] ⟨-200000, 200001⟩ least) W) from Find_any A [-n, 1000] 2 (-200000) 200001 least W (by simp) hr))
    have HS := hid (fun A W (hr : RdI W A [-n, 1000]) => (show Calls Tryd.prog 79 #[.slice A 2 2, .agg #[.int .i64 (-200000), .int .i64 200001]] W (RetX boolR (sureF [-n, 1000] ⟨-200000, 200001⟩) W) from Sure_any A [-n, 1000] 2 (-200000) 200001 W (by simp) hr))
    have HL := hid hL
    have HSu := hid (line_sure hn)
    have h0 := hin (L[0]?.getD ⟨0, 0⟩) (by rw [List.getElem?_eq_getElem (show 0 < L.length by omega)]; exact List.getElem_mem _)
    have Hl1 := hid l1
    have e1 : decide ((L.length : Int) < 1) = false := decide_eq_false (by omega)
    have e2 : decide (4 < (L.length : Int)) = false := decide_eq_false (by omega)
    have e3 : decide ((0 : Int) < (L.length : Int)) = true := decide_eq_true (by omega)
    have e4 : (0 : Int) < (L.length : Int) := by omega
    have n1 : -100000 ≤ n := hn.1
    have n2 : n ≤ 100000 := hn.2
    generalize hs : L[0]?.getD ⟨0, 0⟩ = s at *
    obtain ⟨s1, s2⟩ := h0
    have e5 : decide (s.lo ≤ n) = true := decide_eq_true s1
    have e6 : decide (n ≤ s.hi) = true := decide_eq_true s2
    have Hs := hid hs
    clear hn hl hL hin l1 l2 hs s1 s2 H0 HF0
    go_enter Tryd.func13, Tryd.ntmps13
    go_wp2_with (first
                        | ((go_at_call 47; (refine (HF.out _ _ (rdi2 (by go_simp) (by go_simp))).mono ?_); rintro e w1 ⟨x1, v1, hx1, rfl, hv1, hb1⟩ <;> (rw [HL.out] at hx1; subst hx1; obtain ⟨A1, c1, rfl, hrd1, hc1⟩ := slE_ok hv1; have R1 := hid hrd1; clear hv1 hrd1)) <;> (have hle := Up.le hb1; (try simp only [World.size_alloc, World.size_setCell, World.size_drew, World.heap_drewN] at hle); (try (have _ : w.heap.size < w1.heap.size := (by omega); (first | ((apply fk hb1 (w.heap.size); (focus (go_simp; rfl)); (focus (intro o; go_simp)); intro z; (try clear f_0); have f_0 := z; clear z)) | skip); (try (apply fko hb1 (w.heap.size) 0; (focus (go_simp; rfl)); (focus (go_simp; done)); intro z; (try clear g_0_0); have g_0_0 := z; clear z)); (try (apply fko hb1 (w.heap.size) 1; (focus (go_simp; rfl)); (focus (go_simp; done)); intro z; (try clear g_0_1); have g_0_1 := z; clear z)); (try (apply ck hb1 (w.heap.size) 0; (focus (go_simp; rfl)); intro z; (try clear c_0_0); have c_0_0 := z; clear z)); (try (apply ck hb1 (w.heap.size) 1; (focus (go_simp; rfl)); intro z; (try clear c_0_1); have c_0_1 := z; clear z)))); (try (have _ : w.heap.size + 1 < w1.heap.size := (by omega); (first | ((apply fk hb1 (w.heap.size + 1); (focus (go_simp; rfl)); (focus (intro o; go_simp)); intro z; (try clear f_1); have f_1 := z; clear z)) | skip); (try (apply fko hb1 (w.heap.size + 1) 0; (focus (go_simp; rfl)); (focus (go_simp; done)); intro z; (try clear g_1_0); have g_1_0 := z; clear z)); (try (apply fko hb1 (w.heap.size + 1) 1; (focus (go_simp; rfl)); (focus (go_simp; done)); intro z; (try clear g_1_1); have g_1_1 := z; clear z)); (try (apply ck hb1 (w.heap.size + 1) 0; (focus (go_simp; rfl)); intro z; (try clear c_1_0); have c_1_0 := z; clear z)); (try (apply ck hb1 (w.heap.size + 1) 1; (focus (go_simp; rfl)); intro z; (try clear c_1_1); have c_1_1 := z; clear z)))); clear hle))
                        | ((go_at_call 79; (refine (HS.out _ _ (rdi2 (by go_simp) (by go_simp))).mono ?_); rintro e w2 ⟨x2, hx2, rfl, hb2⟩ <;> (rw [HSu.out] at hx2; subst hx2)) <;> (have hle := Up.le hb2; (try simp only [World.size_alloc, World.size_setCell, World.size_drew, World.heap_drewN] at hle); (try (have _ : w.heap.size < w2.heap.size := (by omega); (first | ((apply fk hb2 (w.heap.size); (focus (go_simp; rfl)); (focus (intro o; go_simp)); intro z; (try clear f_0); have f_0 := z; clear z)) | skip); (try (apply fko hb2 (w.heap.size) 0; (focus (go_simp; rfl)); (focus (go_simp; done)); intro z; (try clear g_0_0); have g_0_0 := z; clear z)); (try (apply fko hb2 (w.heap.size) 1; (focus (go_simp; rfl)); (focus (go_simp; done)); intro z; (try clear g_0_1); have g_0_1 := z; clear z)); (try (apply ck hb2 (w.heap.size) 0; (focus (go_simp; rfl)); intro z; (try clear c_0_0); have c_0_0 := z; clear z)); (try (apply ck hb2 (w.heap.size) 1; (focus (go_simp; rfl)); intro z; (try clear c_0_1); have c_0_1 := z; clear z)))); (try (have _ : w.heap.size + 1 < w2.heap.size := (by omega); (first | ((apply fk hb2 (w.heap.size + 1); (focus (go_simp; rfl)); (focus (intro o; go_simp)); intro z; (try clear f_1); have f_1 := z; clear z)) | skip); (try (apply fko hb2 (w.heap.size + 1) 0; (focus (go_simp; rfl)); (focus (go_simp; done)); intro z; (try clear g_1_0); have g_1_0 := z; clear z)); (try (apply fko hb2 (w.heap.size + 1) 1; (focus (go_simp; rfl)); (focus (go_simp; done)); intro z; (try clear g_1_1); have g_1_1 := z; clear z)); (try (apply ck hb2 (w.heap.size + 1) 0; (focus (go_simp; rfl)); intro z; (try clear c_1_0); have c_1_0 := z; clear z)); (try (apply ck hb2 (w.heap.size + 1) 1; (focus (go_simp; rfl)); intro z; (try clear c_1_1); have c_1_1 := z; clear z)))); clear hle)))
    obtain ⟨bp, op, rfl, lp, cp⟩ := RdS.at (R1.out.up (show Up w1 w2 from by (try clear hUp); (repeat (first | (with_reducible exact Up.refl _) | (with_reducible assumption) | (with_reducible refine Up.alloc ?_ _) | (with_reducible refine Up.drew ?_) | ((with_reducible refine Up.set ?_ ?_ _); rotate_left; focus (first | omega | (simp; done) | (simp; omega))) | (with_reducible refine Up.drewN ?_ _) | (with_reducible refine Up.call ?_ (by with_reducible assumption)))))) Hl1.out
    obtain ⟨p1, p2⟩ := cp 0 Hl1.out
    rw [Hs.out] at p1 p2
    simp only [Nat.zero_mul, Nat.add_zero, Nat.zero_add] at p1 p2
    clear cp R1
    refine wp_loop_rounds 1 ?_
    rw [rounds_succ]
    go_wp2
    all_goals
      go_ret
      refine LawEnd.mk (by first | rfl | (simp; done)) ?_
      (repeat (first | (with_reducible exact Up.refl _) | (with_reducible assumption) | (with_reducible refine Up.alloc ?_ _) | (with_reducible refine Up.drew ?_) | ((with_reducible refine Up.set ?_ ?_ _); rotate_left; focus (first | omega | (simp; done) | (simp; omega))) | (with_reducible refine Up.drewN ?_ _) | (with_reducible refine Up.call ?_ (by with_reducible assumption))))
  all_goals
    go_enter Tryd.func13, Tryd.ntmps13
    go_wp2_with (first
                        | ((go_at_call 47; (with_reducible refine (HF0.out _).mono ?_); rintro e w1 ⟨x1, v1, hx1, rfl, hv1, hb1⟩ <;> (rw [H0.out] at hx1; subst hx1; obtain rfl := slE_error hv1; clear hv1)) <;> (have hle := Up.le hb1; (try simp only [World.size_alloc, World.size_setCell, World.size_drew, World.heap_drewN] at hle); (try (have _ : w.heap.size < w1.heap.size := (by omega); (first | ((apply fk hb1 (w.heap.size); (focus (go_simp; rfl)); (focus (intro o; go_simp)); intro z; (try clear f_0); have f_0 := z; clear z)) | skip); (try (apply fko hb1 (w.heap.size) 0; (focus (go_simp; rfl)); (focus (go_simp; done)); intro z; (try clear g_0_0); have g_0_0 := z; clear z)); (try (apply fko hb1 (w.heap.size) 1; (focus (go_simp; rfl)); (focus (go_simp; done)); intro z; (try clear g_0_1); have g_0_1 := z; clear z)); (try (apply ck hb1 (w.heap.size) 0; (focus (go_simp; rfl)); intro z; (try clear c_0_0); have c_0_0 := z; clear z)); (try (apply ck hb1 (w.heap.size) 1; (focus (go_simp; rfl)); intro z; (try clear c_0_1); have c_0_1 := z; clear z)))); (try (have _ : w.heap.size + 1 < w1.heap.size := (by omega); (first | ((apply fk hb1 (w.heap.size + 1); (focus (go_simp; rfl)); (focus (intro o; go_simp)); intro z; (try clear f_1); have f_1 := z; clear z)) | skip); (try (apply fko hb1 (w.heap.size + 1) 0; (focus (go_simp; rfl)); (focus (go_simp; done)); intro z; (try clear g_1_0); have g_1_0 := z; clear z)); (try (apply fko hb1 (w.heap.size + 1) 1; (focus (go_simp; rfl)); (focus (go_simp; done)); intro z; (try clear g_1_1); have g_1_1 := z; clear z)); (try (apply ck hb1 (w.heap.size + 1) 0; (focus (go_simp; rfl)); intro z; (try clear c_1_0); have c_1_0 := z; clear z)); (try (apply ck hb1 (w.heap.size + 1) 1; (focus (go_simp; rfl)); intro z; (try clear c_1_1); have c_1_1 := z; clear z)))); clear hle))
                        | ((go_at_call 21; have _n := hb1; clear _n; (with_reducible refine (serr_some _ _ _ (Hd.out.up (by (repeat (first | (with_reducible exact Up.refl _) | (with_reducible assumption) | (with_reducible refine Up.alloc ?_ _) | (with_reducible refine Up.drew ?_) | ((with_reducible refine Up.set ?_ ?_ _); rotate_left; focus (first | omega | (simp; done) | (simp; omega))) | (with_reducible refine Up.drewN ?_ _) | (with_reducible refine Up.call ?_ (by with_reducible assumption))))))).mono ?_); rintro e w2 ⟨rfl, hb2⟩) <;> (have hle := Up.le hb2; (try simp only [World.size_alloc, World.size_setCell, World.size_drew, World.heap_drewN] at hle); (try (have _ : w.heap.size < w2.heap.size := (by omega); (first | ((apply fk hb2 (w.heap.size); (focus (go_simp; rfl)); (focus (intro o; go_simp)); intro z; (try clear f_0); have f_0 := z; clear z)) | skip); (try (apply fko hb2 (w.heap.size) 0; (focus (go_simp; rfl)); (focus (go_simp; done)); intro z; (try clear g_0_0); have g_0_0 := z; clear z)); (try (apply fko hb2 (w.heap.size) 1; (focus (go_simp; rfl)); (focus (go_simp; done)); intro z; (try clear g_0_1); have g_0_1 := z; clear z)); (try (apply ck hb2 (w.heap.size) 0; (focus (go_simp; rfl)); intro z; (try clear c_0_0); have c_0_0 := z; clear z)); (try (apply ck hb2 (w.heap.size) 1; (focus (go_simp; rfl)); intro z; (try clear c_0_1); have c_0_1 := z; clear z)))); (try (have _ : w.heap.size + 1 < w2.heap.size := (by omega); (first | ((apply fk hb2 (w.heap.size + 1); (focus (go_simp; rfl)); (focus (intro o; go_simp)); intro z; (try clear f_1); have f_1 := z; clear z)) | skip); (try (apply fko hb2 (w.heap.size + 1) 0; (focus (go_simp; rfl)); (focus (go_simp; done)); intro z; (try clear g_1_0); have g_1_0 := z; clear z)); (try (apply fko hb2 (w.heap.size + 1) 1; (focus (go_simp; rfl)); (focus (go_simp; done)); intro z; (try clear g_1_1); have g_1_1 := z; clear z)); (try (apply ck hb2 (w.heap.size + 1) 0; (focus (go_simp; rfl)); intro z; (try clear c_1_0); have c_1_0 := z; clear z)); (try (apply ck hb2 (w.heap.size + 1) 1; (focus (go_simp; rfl)); intro z; (try clear c_1_1); have c_1_1 := z; clear z)))); clear hle)))
    go_ret
    refine LawEnd.mk (by first | rfl | (simp; done)) ?_
    (repeat (first | (with_reducible exact Up.refl _) | (with_reducible assumption) | (with_reducible refine Up.alloc ?_ _) | (with_reducible refine Up.drew ?_) | ((with_reducible refine Up.set ?_ ?_ _); rotate_left; focus (first | omega | (simp; done) | (simp; omega))) | (with_reducible refine Up.drewN ?_ _) | (with_reducible refine Up.call ?_ (by with_reducible assumption))))
set_option maxRecDepth 100000 in
theorem rootLine_lifted (os : Os) (started : os.Started) (H : Type) (enc : TypeId × Value → H) :
    ReturnsInHanded {} Tryd.checked os 13 .any (fun w args => (Rows.rootLineSpec.pre enc Tryd.prog Tryd.f13 [] false w args ∧ laidMetH Tryd.prog laidL w) ∧ sizedMet enc Tryd.prog Tryd.f13 (OpenSpec.ofChange Rows.rootLineSpec) false w args) (Rows.rootLineSpec.post enc Tryd.prog Tryd.f13 false true false false) := by
  refine returnsInHanded_of_change_and (C := Tryd.checked) (X := fun w _ => laidMetH Tryd.prog laidL w) (fun _ _ _ hh h => h.of_heap hh) Tryd.own started (by kernel_rfl) Tryd.func13
    (ChangeSpec.witness_at (enc := enc) (C := Tryd.checked) (os := os) (X := fun w _ => laidMetH Tryd.prog laidL w) false (laidWorld os) #[.int .i64 0, .int .i64 0] 8 rfl (by kernel_rfl) (by kernel_rfl) (by kernel_rfl) (by kernel_rfl) (by kernel_rfl) (laidWorld_met os _)) ?_
  intro W base args ds gs before hval0 hW _ _ hL _
  have hdoor := door_of_laid hL
  have hval : ∀ (j : Nat) t v, Tryd.f13.params[j]? = some t → args[j]? = some v → Value.okWide Tryd.prog W .any base t v := hval0
  have hW' := hW
  obtain ⟨p, q, hA0, hV, rfl, hfz, hnd⟩ := hW
  have hA : DataW.TrodAll enc Tryd.prog W 0 (fun _ => true) true Tryd.f13.params.toList args.toList ds p := hA0
  rw [Tryd.params13] at hA hval
  obtain ⟨v0, v1, d0, d1, p0, p1, rfl, rfl, rfl, h0, h1⟩ := trodAll_two hA
  obtain ⟨rfl, rfl⟩ := trodVars_none hV
  obtain ⟨n0, rfl, w0⟩ := open_i64 Tryd.underlying3 (hval 0 3 _ rfl rfl) h0
  obtain ⟨n1, rfl, w1⟩ := open_i64 Tryd.underlying3 (hval 1 3 _ rfl rfl) h1
  clear hA0 hval0
  refine (rootLine_walk n0 n1 W w0 w1 hdoor).mono fun e W' ⟨he, hu⟩ => ?_
  subst he
  exact ⟨_, rfl, law_post Tryd.laidOut rfl rfl Tryd.underlying4 (fun t ht => by simp [Tryd.params13] at ht; (try rcases ht with rfl); all_goals (first | (subst ht; exact ⟨by kernel_rfl, of_decide_eq_true (by kernel_rfl)⟩) | exact ⟨by kernel_rfl, of_decide_eq_true (by kernel_rfl)⟩)) hW' rfl rfl rfl hu⟩
theorem rootLine_k1 : (Rows.rootLineRow.inPlace == Tryd.pinned.checked.prog.inPlace 13) = true := by kernel_rfl
theorem rootLine_k2 : (Rows.rootLineRow.unfollowed == Tryd.pinned.checked.prog.unfollowed 13) = true := by kernel_rfl
theorem rootLine_k3 : (Rows.rootLineRow.recurses == Tryd.pinned.checked.prog.recurses 13) = true := by kernel_rfl
theorem rootLine_k4 : (Rows.rootLineRow.named == Tryd.pinned.checked.prog.varsNamed 13) = true := by kernel_rfl
theorem rootLine_facts : joinedFacts Tryd.pinned.checked.prog 13 Tryd.f13 Rows.rootLineSpec Rows.rootLineRow = true :=
  joined_of _ _ _ _ _ Tryd.g1 Tryd.g2 Tryd.g3 Tryd.g4 Tryd.g5 Tryd.g6 Tryd.g7 Tryd.g8 Tryd.g9 rootLine_k1 rootLine_k2 rootLine_k3 rootLine_k4 (by kernel_rfl)
theorem rootLine_bare : Rows.RootLineSaid :=
  OpenClaim.holds_of_wide 13 Tryd.f13 rfl rfl rfl rfl rfl rfl rfl ⟨rfl, rfl, rfl, rfl, rfl⟩ rfl rfl rfl rfl rfl (by kernel_rfl) Tryd.func13 rootLine_facts
    (of_decide_eq_true (by kernel_rfl)) (by unfold Func.isWrapper; rw [if_neg (by decide +kernel)]; exact ⟨rfl, rfl⟩)
    (fun os started H enc _ => rootLine_lifted os started H enc)
theorem rootLine_holds : Rows.RootLineCardSaid :=
  Claim7.holds_tied_plain_at .later [] [.handle] true (true, "9fc5c01bcadd3517c8455d572b2af8d3af9503c8b0fcaaf774d8271f979d30e1") true rootLine_bare (fun _ h => by cases h) (by kernel_rfl) (fun _ h => by cases h) rootLine_row_tie rfl ⟨rfl, rfl⟩ door_main rfl
    (fun f fn hf hfn => by
      obtain rfl : f = 13 := Option.some.inj ((show Tryd.prog.funcNamed "spanmeadow/spanlaw4.RootLine" = some 13 by kernel_rfl).symm.trans hf) |>.symm
      obtain rfl : fn = Tryd.f13 := (Option.some.inj (Tryd.func13.symm.trans hfn)).symm
      exact ⟨door_looks.symm, fun j t ht => by
        rw [Tryd.params13] at ht
        have hm : t ∈ [3] := by
          have := Array.mem_of_getElem? ht
          simpa using this
        simp only [List.mem_cons, List.not_mem_nil, or_false] at hm
        rcases hm with rfl
        · exact (show Tryd.prog.wantsStandIn 3 = false by kernel_rfl)⟩)
    (by kernel_rfl)
#print axioms rootLine_holds
end Go.Proofs.YtafhcppigpjcpaaDoor
