/- BoxTells: the fault of a box, whether it has numbers, whether it is within another one, hulls, meets and halves are as the reference tells them. -/
import Derived.Test.YtafhcppigpjcpaaDoorTells
import Derived.Test.YtafhcppigpjcpaaDoorRfbb
import Derived.Test.YtafhcppigpjcpaaDoorSame
import Derived.Test.YtafhcppigpjcpaaDoorBoxd
import Derived.Test.YtafhcppigpjcpaaDoorClone
import Derived.Test.YtafhcppigpjcpaaDoorOwn
import Derived.Test.YtafhcppigpjcpaaDoorDoor
import Derived.Test.YtafhcppigpjcpaaDoorLdpa
import Derived.Test.YtafhcppigpjcpaaDoorLdpc

set_option linter.unusedVariables false
set_option linter.unusedSimpArgs false
namespace Go.Proofs.YtafhcppigpjcpaaDoor
open Go.ChangeShapes Go.WideShapes Go.ChangeAt Go.RowKit Go.Joins Go.Deep

theorem boxTells_walk (A : Option Addr) (a : List Sp) (c : Nat) (B : Option Addr) (b : List Sp) (d : Nat) (X : Option Addr) (x : List Int) (e : Nat) (w : World) (ha : LS w A a c) (hb : LS w B b d) (hx : LI w X x e) (hd : Door w) :
    Calls Tryd.prog 5 #[.slice A a.length c, .slice B b.length d, .slice X x.length e] w (LawEnd w) := by
  cases h : bcheckF a with
  | some k => exact bt_bad A B X a b x c d e w ha.rd hb.rd hx.rd hd h
  | none =>
    cases h7 : btwoF a b with
    | some k => exact bt_two A B X a b x c d e w ha.rd hb.rd hx.rd hd h h7
    | none =>
      cases hm : bcomF a b with
      | error n => exact bt_nomeet A B X a b x c d e w ha.rd hb.rd hx.rd hd h h7 hm
      | ok m => exact bt_meet A B X a b x c d e w ha.rd hb.rd hx.rd hd h h7 hm
set_option maxRecDepth 100000 in
theorem boxTells_lifted (os : Os) (started : os.Started) (H : Type) (enc : TypeId × Value → H) :
    ReturnsInHanded {} Tryd.checked os 5 .any (fun w args => (Rows.boxTellsSpec.pre enc Tryd.prog Tryd.f5 [] false w args ∧ laidMetH Tryd.prog laidL w) ∧ sizedMet enc Tryd.prog Tryd.f5 (OpenSpec.ofChange Rows.boxTellsSpec) false w args) (Rows.boxTellsSpec.post enc Tryd.prog Tryd.f5 false true false false) := by
  refine returnsInHanded_of_change_and (C := Tryd.checked) (X := fun w _ => laidMetH Tryd.prog laidL w) (fun _ _ _ hh h => h.of_heap hh) Tryd.own started (by kernel_rfl) Tryd.func5
    (ChangeSpec.witness_at (enc := enc) (C := Tryd.checked) (os := os) (X := fun w _ => laidMetH Tryd.prog laidL w) false (laidWorld os) #[.slice none 0 0, .slice none 0 0, .slice none 0 0] 8 rfl (by kernel_rfl) (by kernel_rfl) (by kernel_rfl) (by kernel_rfl) (by kernel_rfl) (laidWorld_met os _)) ?_
  intro W base args ds gs before hval0 hW _ _ hL _
  have hdoor := door_of_laid hL
  have hval : ∀ (j : Nat) t v, Tryd.f5.params[j]? = some t → args[j]? = some v → Value.okWide Tryd.prog W .any base t v := hval0
  have hW' := hW
  obtain ⟨p, q, hA0, hV, rfl, hfz, hnd⟩ := hW
  have hA : DataW.TrodAll enc Tryd.prog W 0 (fun _ => true) true Tryd.f5.params.toList args.toList ds p := hA0
  rw [Tryd.params5] at hA hval
  obtain ⟨v0, v1, v2, d0, d1, d2, p0, p1, p2, rfl, rfl, rfl, h0, h1, h2⟩ := trodAll_three hA
  obtain ⟨rfl, rfl⟩ := trodVars_none hV
  obtain ⟨A0, b0, c0, rfl, w0⟩ := open_slist (ti := 3) Tryd.underlying37 Tryd.underlying23 Tryd.cellsSpan rfl rfl rfl rfl Tryd.underlying3 Tryd.cellsInt (hval 0 37 _ rfl rfl) h0
  obtain ⟨A1, b1, c1, rfl, w1⟩ := open_slist (ti := 3) Tryd.underlying37 Tryd.underlying23 Tryd.cellsSpan rfl rfl rfl rfl Tryd.underlying3 Tryd.cellsInt (hval 1 37 _ rfl rfl) h1
  obtain ⟨A2, l2, c2, rfl, w2⟩ := open_ilist Tryd.underlying38 Tryd.underlying3 Tryd.cellsInt (hval 2 38 _ rfl rfl) h2
  clear hA0 hval0
  refine (boxTells_walk A0 b0 c0 A1 b1 c1 A2 l2 c2 W w0 w1 w2 hdoor).mono fun e W' ⟨he, hu⟩ => ?_
  subst he
  exact ⟨_, rfl, law_post Tryd.laidOut rfl rfl Tryd.underlying4 (fun t ht => by simp [Tryd.params5] at ht; (try rcases ht with rfl | rfl); all_goals (first | (subst ht; exact ⟨by kernel_rfl, of_decide_eq_true (by kernel_rfl)⟩) | exact ⟨by kernel_rfl, of_decide_eq_true (by kernel_rfl)⟩)) hW' rfl rfl rfl hu⟩
theorem boxTells_k1 : (Rows.boxTellsRow.inPlace == Tryd.pinned.checked.prog.inPlace 5) = true := by kernel_rfl
theorem boxTells_k2 : (Rows.boxTellsRow.unfollowed == Tryd.pinned.checked.prog.unfollowed 5) = true := by kernel_rfl
theorem boxTells_k3 : (Rows.boxTellsRow.recurses == Tryd.pinned.checked.prog.recurses 5) = true := by kernel_rfl
theorem boxTells_k4 : (Rows.boxTellsRow.named == Tryd.pinned.checked.prog.varsNamed 5) = true := by kernel_rfl
theorem boxTells_facts : joinedFacts Tryd.pinned.checked.prog 5 Tryd.f5 Rows.boxTellsSpec Rows.boxTellsRow = true :=
  joined_of _ _ _ _ _ Tryd.g1 Tryd.g2 Tryd.g3 Tryd.g4 Tryd.g5 Tryd.g6 Tryd.g7 Tryd.g8 Tryd.g9 boxTells_k1 boxTells_k2 boxTells_k3 boxTells_k4 (by kernel_rfl)
theorem boxTells_bare : Rows.BoxTellsSaid :=
  OpenClaim.holds_of_wide 5 Tryd.f5 rfl rfl rfl rfl rfl rfl rfl ⟨rfl, rfl, rfl, rfl, rfl⟩ rfl rfl rfl rfl rfl (by kernel_rfl) Tryd.func5 boxTells_facts
    (of_decide_eq_true (by kernel_rfl)) (by unfold Func.isWrapper; rw [if_neg (by decide +kernel)]; exact ⟨rfl, rfl⟩)
    (fun os started H enc _ => boxTells_lifted os started H enc)
theorem boxTells_holds : Rows.BoxTellsCardSaid :=
  Claim7.holds_tied_plain_at .later [] [.handle] true (true, "9fc5c01bcadd3517c8455d572b2af8d3af9503c8b0fcaaf774d8271f979d30e1") true boxTells_bare (fun _ h => by cases h) (by kernel_rfl) (fun _ h => by cases h) boxTells_row_tie rfl ⟨rfl, rfl⟩ door_main rfl
    (fun f fn hf hfn => by
      obtain rfl : f = 5 := Option.some.inj ((show Tryd.prog.funcNamed "spanmeadow/spanlaw1.BoxTells" = some 5 by kernel_rfl).symm.trans hf) |>.symm
      obtain rfl : fn = Tryd.f5 := (Option.some.inj (Tryd.func5.symm.trans hfn)).symm
      exact ⟨door_looks.symm, fun j t ht => by
        rw [Tryd.params5] at ht
        have hm : t ∈ [37, 38] := by
          have := Array.mem_of_getElem? ht
          simpa using this
        simp only [List.mem_cons, List.not_mem_nil, or_false] at hm
        rcases hm with rfl | rfl
        · exact (show Tryd.prog.wantsStandIn 37 = false by kernel_rfl)
        · exact (show Tryd.prog.wantsStandIn 38 = false by kernel_rfl)⟩)
    (by kernel_rfl)
#print axioms boxTells_holds
end Go.Proofs.YtafhcppigpjcpaaDoor
