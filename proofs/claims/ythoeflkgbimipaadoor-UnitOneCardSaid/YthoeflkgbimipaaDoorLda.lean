/- UnitOne: a number times one, and by one, is itself; by 0 there is none. -/
import Derived.Test.YthoeflkgbimipaaDoorUnitb
import Derived.Test.YthoeflkgbimipaaDoorTold
import Derived.Test.YthoeflkgbimipaaDoorOwn
import Derived.Test.YthoeflkgbimipaaDoorRowb
import Derived.Test.YthoeflkgbimipaaDoorDoor
set_option linter.unusedVariables false
set_option linter.unusedSimpArgs false
namespace Go.Proofs.YthoeflkgbimipaaDoor
open Go.ChangeShapes Go.WideShapes Go.ChangeAt Go.RowKit Go.Joins Go.Deep

theorem utimes_thou {n : Int} (h : M n) : utimesF n 1000 = .ok (n, n) := by
  have e1 : pdn n 1000 = n := by unfold pdn dn; omega
  have e2 : pup n 1000 = n := by unfold pup up; omega
  unfold utimesF ufitsF
  rw [if_pos ⟨h, by decide⟩, e1, e2, if_pos ⟨h, h⟩]
theorem uby_thou {n : Int} (h : M n) : ubyF n 1000 = .ok (n, n) := by
  have e1 : qdn n 1000 = n := by unfold qdn dn; rw [if_neg (by decide)]; omega
  have e2 : qup n 1000 = n := by unfold qup up; rw [if_neg (by decide)]; omega
  unfold ubyF ufitsF
  rw [if_pos ⟨h, by decide⟩, if_neg (by decide), e1, e2, if_pos ⟨h, h⟩]
theorem uby_nought {n : Int} (h : M n) : ubyF n 0 = .error 8 := by
  unfold ubyF
  rw [if_pos ⟨h, by decide⟩, if_pos rfl]
theorem utimes_x (a b : Int) (w : World) : Calls Tryd.prog 13 #[.int .i64 a, .int .i64 b] w (RetX int2R (utimesF a b) w) := (utimes_any a b w).mono fun _ _ h => ⟨_, rfl, h.1, h.2⟩
theorem uby_x (a b : Int) (w : World) : Calls Tryd.prog 14 #[.int .i64 a, .int .i64 b] w (RetX int2R (ubyF a b) w) := (uby_any a b w).mono fun _ _ h => ⟨_, rfl, h.1, h.2⟩

theorem unitOne_walk (n : Int) (w : World) (_h : I64 n) (hd : Door w) :
    Calls Tryd.prog 3 #[.int .i64 n] w (LawEnd w) := by
  have Hd := hid hd
  clear hd _h
  by_cases h : M n
  · have E1 := hid (utimes_thou h)
    have E2 := hid (uby_thou h)
    have E3 := hid (uby_nought h)
    clear h
    go_enter Tryd.func3, Tryd.ntmps3
    go_wp2_with (first
                        | ((go_at_call 13; (with_reducible refine (utimes_x _ _ _).mono ?_); rintro e w1 ⟨x1, hx1, rfl, hb1⟩ <;> (rw [E1.out] at hx1; subst hx1)) <;> (have hle := Up.le hb1; (try simp only [World.size_alloc, World.size_setCell, World.size_drew, World.heap_drewN] at hle); clear hle))
                        | ((go_at_call 14; (with_reducible refine (uby_x n 1000 _).mono ?_); rintro e w2 ⟨x2, hx2, rfl, hb2⟩ <;> (rw [E2.out] at hx2; subst hx2)) <;> (have hle := Up.le hb2; (try simp only [World.size_alloc, World.size_setCell, World.size_drew, World.heap_drewN] at hle); clear hle))
                        | ((go_at_call 14; (with_reducible refine (uby_x n 0 _).mono ?_); rintro e w3 ⟨x3, hx3, rfl, hb3⟩ <;> (rw [E3.out] at hx3; subst hx3)) <;> (have hle := Up.le hb3; (try simp only [World.size_alloc, World.size_setCell, World.size_drew, World.heap_drewN] at hle); clear hle))
                        | ((go_at_call 15; (refine (serr_some _ _ _ (Hd.out.up (by (repeat (first | (with_reducible exact Up.refl _) | (with_reducible assumption) | (with_reducible refine Up.alloc ?_ _) | (with_reducible refine Up.drew ?_) | ((with_reducible refine Up.set ?_ ?_ _); rotate_left; focus (first | omega | (simp; done) | (simp; omega))) | (with_reducible refine Up.drewN ?_ _) | (with_reducible refine Up.call ?_ (by with_reducible assumption))))))).mono ?_); rintro e w4 ⟨rfl, hb4⟩) <;> (have hle := Up.le hb4; (try simp only [World.size_alloc, World.size_setCell, World.size_drew, World.heap_drewN] at hle); clear hle)))
    all_goals
      go_ret
      refine LawEnd.mk (by first | rfl | (simp; done)) ?_
      (repeat (first | (with_reducible exact Up.refl _) | (with_reducible assumption) | (with_reducible refine Up.alloc ?_ _) | (with_reducible refine Up.drew ?_) | ((with_reducible refine Up.set ?_ ?_ _); rotate_left; focus (first | omega | (simp; done) | (simp; omega))) | (with_reducible refine Up.drewN ?_ _) | (with_reducible refine Up.call ?_ (by with_reducible assumption))))
  · have E1 := hid (show utimesF n 1000 = .error 1 by unfold utimesF; rw [if_neg (fun k => h k.1)])
    have E2 := hid (show ubyF n 1000 = .error 1 by unfold ubyF; rw [if_neg (fun k => h k.1)])
    have E3 := hid (show ubyF n 0 = .error 1 by unfold ubyF; rw [if_neg (fun k => h k.1)])
    have Hor := hid (show n < -1000000000 ∨ 1000000000 < n by unfold M at h; omega)
    clear h
    rcases Hor.out with h1 | h1
    · have d1 : decide (n < -1000000000) = true := decide_eq_true h1
      clear h1
      go_enter Tryd.func3, Tryd.ntmps3
      go_wp2_with (first
                        | ((go_at_call 13; (with_reducible refine (utimes_x _ _ _).mono ?_); rintro e w1 ⟨x1, hx1, rfl, hb1⟩ <;> (rw [E1.out] at hx1; subst hx1)) <;> (have hle := Up.le hb1; (try simp only [World.size_alloc, World.size_setCell, World.size_drew, World.heap_drewN] at hle); clear hle))
                        | ((go_at_call 14; (with_reducible refine (uby_x n 1000 _).mono ?_); rintro e w2 ⟨x2, hx2, rfl, hb2⟩ <;> (rw [E2.out] at hx2; subst hx2)) <;> (have hle := Up.le hb2; (try simp only [World.size_alloc, World.size_setCell, World.size_drew, World.heap_drewN] at hle); clear hle))
                        | ((go_at_call 14; (with_reducible refine (uby_x n 0 _).mono ?_); rintro e w3 ⟨x3, hx3, rfl, hb3⟩ <;> (rw [E3.out] at hx3; subst hx3)) <;> (have hle := Up.le hb3; (try simp only [World.size_alloc, World.size_setCell, World.size_drew, World.heap_drewN] at hle); clear hle))
                        | ((go_at_call 15; (refine (serr_some _ _ _ (Hd.out.up (by (repeat (first | (with_reducible exact Up.refl _) | (with_reducible assumption) | (with_reducible refine Up.alloc ?_ _) | (with_reducible refine Up.drew ?_) | ((with_reducible refine Up.set ?_ ?_ _); rotate_left; focus (first | omega | (simp; done) | (simp; omega))) | (with_reducible refine Up.drewN ?_ _) | (with_reducible refine Up.call ?_ (by with_reducible assumption))))))).mono ?_); rintro e w4 ⟨rfl, hb4⟩) <;> (have hle := Up.le hb4; (try simp only [World.size_alloc, World.size_setCell, World.size_drew, World.heap_drewN] at hle); clear hle)))
      all_goals
        go_ret
        refine LawEnd.mk (by first | rfl | (simp; done)) ?_
        (repeat (first | (with_reducible exact Up.refl _) | (with_reducible assumption) | (with_reducible refine Up.alloc ?_ _) | (with_reducible refine Up.drew ?_) | ((with_reducible refine Up.set ?_ ?_ _); rotate_left; focus (first | omega | (simp; done) | (simp; omega))) | (with_reducible refine Up.drewN ?_ _) | (with_reducible refine Up.call ?_ (by with_reducible assumption))))
    · have d1 : decide (n < -1000000000) = false := decide_eq_false (by omega)
      have d2 : decide (1000000000 < n) = true := decide_eq_true h1
      clear h1
      go_enter Tryd.func3, Tryd.ntmps3
      go_wp2_with (first
                        | ((go_at_call 13; (with_reducible refine (utimes_x _ _ _).mono ?_); rintro e w1 ⟨x1, hx1, rfl, hb1⟩ <;> (rw [E1.out] at hx1; subst hx1)) <;> (have hle := Up.le hb1; (try simp only [World.size_alloc, World.size_setCell, World.size_drew, World.heap_drewN] at hle); clear hle))
                        | ((go_at_call 14; (with_reducible refine (uby_x n 1000 _).mono ?_); rintro e w2 ⟨x2, hx2, rfl, hb2⟩ <;> (rw [E2.out] at hx2; subst hx2)) <;> (have hle := Up.le hb2; (try simp only [World.size_alloc, World.size_setCell, World.size_drew, World.heap_drewN] at hle); clear hle))
                        | ((go_at_call 14; (with_reducible refine (uby_x n 0 _).mono ?_); rintro e w3 ⟨x3, hx3, rfl, hb3⟩ <;> (rw [E3.out] at hx3; subst hx3)) <;> (have hle := Up.le hb3; (try simp only [World.size_alloc, World.size_setCell, World.size_drew, World.heap_drewN] at hle); clear hle))
                        | ((go_at_call 15; (refine (serr_some _ _ _ (Hd.out.up (by (repeat (first | (with_reducible exact Up.refl _) | (with_reducible assumption) | (with_reducible refine Up.alloc ?_ _) | (with_reducible refine Up.drew ?_) | ((with_reducible refine Up.set ?_ ?_ _); rotate_left; focus (first | omega | (simp; done) | (simp; omega))) | (with_reducible refine Up.drewN ?_ _) | (with_reducible refine Up.call ?_ (by with_reducible assumption))))))).mono ?_); rintro e w4 ⟨rfl, hb4⟩) <;> (have hle := Up.le hb4; (try simp only [World.size_alloc, World.size_setCell, World.size_drew, World.heap_drewN] at hle); clear hle)))
      all_goals
        go_ret
        refine LawEnd.mk (by first | rfl | (simp; done)) ?_
        (repeat (first | (with_reducible exact Up.refl _) | (with_reducible assumption) | (with_reducible refine Up.alloc ?_ _) | (with_reducible refine Up.drew ?_) | ((with_reducible refine Up.set ?_ ?_ _); rotate_left; focus (first | omega | (simp; done) | (simp; omega))) | (with_reducible refine Up.drewN ?_ _) | (with_reducible refine Up.call ?_ (by with_reducible assumption))))
set_option maxRecDepth 100000 in
theorem unitOne_lifted (os : Os) (started : os.Started) (H : Type) (enc : TypeId × Value → H) :
    ReturnsInHanded {} Tryd.checked os 3 .any (fun w args => (Rows.unitOneSpec.pre enc Tryd.prog Tryd.f3 [] false w args ∧ laidMetH Tryd.prog laidL w) ∧ sizedMet enc Tryd.prog Tryd.f3 (OpenSpec.ofChange Rows.unitOneSpec) false w args) (Rows.unitOneSpec.post enc Tryd.prog Tryd.f3 false true false false) := by
  refine returnsInHanded_of_change_and (C := Tryd.checked) (X := fun w _ => laidMetH Tryd.prog laidL w) (fun _ _ _ hh h => h.of_heap hh) Tryd.own started (by kernel_rfl) Tryd.func3
    (ChangeSpec.witness_at (enc := enc) (C := Tryd.checked) (os := os) (X := fun w _ => laidMetH Tryd.prog laidL w) false (laidWorld os) #[.int .i64 0] 8 rfl (by kernel_rfl) (by kernel_rfl) (by kernel_rfl) (by kernel_rfl) (by kernel_rfl) (laidWorld_met os _)) ?_
  intro W base args ds gs before hval0 hW _ _ hL _
  have hdoor := door_of_laid hL
  have hval : ∀ (j : Nat) t v, Tryd.f3.params[j]? = some t → args[j]? = some v → Value.okWide Tryd.prog W .any base t v := hval0
  have hW' := hW
  obtain ⟨p, q, hA0, hV, rfl, hfz, hnd⟩ := hW
  have hA : DataW.TrodAll enc Tryd.prog W 0 (fun _ => true) true Tryd.f3.params.toList args.toList ds p := hA0
  rw [Tryd.params3] at hA hval
  obtain ⟨v0, d0, rfl, rfl, h0⟩ := trodAll_one hA
  obtain ⟨rfl, rfl⟩ := trodVars_none hV
  obtain ⟨n0, rfl, w0⟩ := open_i64 Tryd.underlying3 (hval 0 3 _ rfl rfl) h0
  clear hA0 hval0
  refine (unitOne_walk n0 W w0 hdoor).mono fun e W' ⟨he, hu⟩ => ?_
  subst he
  exact ⟨_, rfl, law_post Tryd.laidOut rfl rfl Tryd.underlying4 (fun t ht => by simp [Tryd.params3] at ht; (try rcases ht with rfl); all_goals (first | (subst ht; exact ⟨by kernel_rfl, of_decide_eq_true (by kernel_rfl)⟩) | exact ⟨by kernel_rfl, of_decide_eq_true (by kernel_rfl)⟩)) hW' rfl rfl rfl hu⟩
theorem unitOne_k1 : (Rows.unitOneRow.inPlace == Tryd.pinned.checked.prog.inPlace 3) = true := by kernel_rfl
theorem unitOne_k2 : (Rows.unitOneRow.unfollowed == Tryd.pinned.checked.prog.unfollowed 3) = true := by kernel_rfl
theorem unitOne_k3 : (Rows.unitOneRow.recurses == Tryd.pinned.checked.prog.recurses 3) = true := by kernel_rfl
theorem unitOne_k4 : (Rows.unitOneRow.named == Tryd.pinned.checked.prog.varsNamed 3) = true := by kernel_rfl
theorem unitOne_facts : joinedFacts Tryd.pinned.checked.prog 3 Tryd.f3 Rows.unitOneSpec Rows.unitOneRow = true :=
  joined_of _ _ _ _ _ Tryd.g1 Tryd.g2 Tryd.g3 Tryd.g4 Tryd.g5 Tryd.g6 Tryd.g7 Tryd.g8 Tryd.g9 unitOne_k1 unitOne_k2 unitOne_k3 unitOne_k4 (by kernel_rfl)
theorem unitOne_bare : Rows.UnitOneSaid :=
  OpenClaim.holds_of_wide 3 Tryd.f3 rfl rfl rfl rfl rfl rfl rfl ⟨rfl, rfl, rfl, rfl, rfl⟩ rfl rfl rfl rfl rfl (by kernel_rfl) Tryd.func3 unitOne_facts
    (of_decide_eq_true (by kernel_rfl)) (by unfold Func.isWrapper; rw [if_neg (by decide +kernel)]; exact ⟨rfl, rfl⟩)
    (fun os started H enc _ => unitOne_lifted os started H enc)
theorem unitOne_holds : Rows.UnitOneCardSaid :=
  Claim7.holds_tied_plain_at .later [] [.handle] true (true, "4f0e6ec2999e8407fc3f8e47fa2bca43f09fb7e21995caceb48bce91139f8bbd") true unitOne_bare (fun _ h => by cases h) (by kernel_rfl) (fun _ h => by cases h) unitOne_row_tie rfl ⟨rfl, rfl⟩ door_main rfl
    (fun f fn hf hfn => by
      obtain rfl : f = 3 := Option.some.inj ((show Tryd.prog.funcNamed "spanmeadow/spanlaw4.UnitOne" = some 3 by kernel_rfl).symm.trans hf) |>.symm
      obtain rfl : fn = Tryd.f3 := (Option.some.inj (Tryd.func3.symm.trans hfn)).symm
      exact ⟨door_looks.symm, fun j t ht => by
        rw [Tryd.params3] at ht
        have hm : t ∈ [3] := by
          have := Array.mem_of_getElem? ht
          simpa using this
        simp only [List.mem_cons, List.not_mem_nil, or_false] at hm
        rcases hm with rfl
        all_goals first | exact (show Tryd.prog.wantsStandIn 3 = false by kernel_rfl)⟩)
    (by kernel_rfl)
#print axioms unitOne_holds
end Go.Proofs.YthoeflkgbimipaaDoor
