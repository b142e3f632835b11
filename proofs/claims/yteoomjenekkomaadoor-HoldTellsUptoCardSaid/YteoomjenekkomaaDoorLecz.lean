/- HoldTells: whether a box is never left, and one that grows till it is so, are as the reference tells them. -/
import Derived.Test.YteoomjenekkomaaDoorLecf
import Derived.Test.YteoomjenekkomaaDoorLecg
import Derived.Test.YteoomjenekkomaaDoorLech
import Derived.Test.YteoomjenekkomaaDoorRow
import Derived.Test.YteoomjenekkomaaDoorBulk
import Derived.Test.YteoomjenekkomaaDoorUpd

set_option linter.unusedVariables false
set_option linter.unusedSimpArgs false
namespace Go.Proofs.YteoomjenekkomaaDoor
open Go.ChangeShapes Go.WideShapes Go.ChangeAt Go.RowKit Go.Joins Go.Deep


theorem holdTells_walk (As Bs : Option Addr) (s : Sy) (cs es : Nat) (Ab : Option Addr) (b : List Sp) (cb : Nat) (y m : Int) (w : World) (hs : LY w As Bs s cs es) (hb : LS w Ab b cb) (_hy : I64 y) (_hm : I64 m) (hdoor : Door w) (hbl : b.length ≤ 1048576) :
    Calls Tryd.prog 5 #[.agg #[.slice As s.next.length cs, .slice Bs s.push.length es], .slice Ab b.length cb, .int .i64 y, .int .i64 m] w (LawEnd w) := by
  by_cases hr : y < 0 ∨ 1000000000 < y ∨ m < 0 ∨ 20 < m
  · exact ht_far As Bs s cs es Ab b cb y m w hs.ry hb.rd hbl hb.cap hdoor hr
  · cases h1 : readyF s b with
    | some k => exact ht_bad As Bs s cs es Ab b cb y m w hs.ry hb.rd hbl hb.cap hdoor (by omega) h1
    | none =>
      obtain ⟨n, rfl⟩ : ∃ n : Nat, m = n := ⟨m.toNat, by omega⟩
      cases h2 : nextF s b with
      | error k => exact ht_go1 As Bs s cs es Ab b cb y n w hs.ry hb.rd hbl hb.cap hdoor (by omega) (by omega) h1 h2
      | ok l => exact ht_go2 As Bs s cs es Ab b cb y n w hs.ry hb.rd hbl hb.cap hdoor (by omega) (by omega) h1 h2
set_option maxRecDepth 100000 in
theorem holdTells_lifted (os : Os) (started : os.Started) (H : Type) (enc : TypeId × Value → H) (F : Stop.Interp) :
    ReturnsInHanded {} Tryd.checked os 5 .any (fun w args => ((Rows.OpenSpec.upto Rows.holdTellsSpec).pre enc Tryd.prog Tryd.f5 [] false w args ∧ laidMetH Tryd.prog laidL w) ∧ sizedMet enc Tryd.prog Tryd.f5 (Rows.OpenSpec.upto Rows.holdTellsSpec) false w args) (((Rows.OpenSpec.upto Rows.holdTellsSpec).at F).post enc Tryd.prog Tryd.f5 false true false false) := by
  refine lift_cond_and (C := Tryd.checked) (s := (Rows.OpenSpec.upto Rows.holdTellsSpec)) (k := Rows.uptoSmall) rfl (X := fun w _ => laidMetH Tryd.prog laidL w) (fun _ _ _ hh h => h.of_heap hh) Tryd.own started (by kernel_rfl) Tryd.func5
    (witness_cond_at (enc := enc) (C := Tryd.checked) (os := os) (s := (Rows.OpenSpec.upto Rows.holdTellsSpec)) (k := Rows.uptoSmall) rfl (X := fun w _ => laidMetH Tryd.prog laidL w) false (laidWorld os) #[.agg #[.slice none 0 0, .slice none 0 0], .slice none 0 0, .int .i64 0, .int .i64 0] 8 rfl (by kernel_rfl) (by kernel_rfl) (by kernel_rfl) (x := ([.agg [.nil, .nil], .nil, .lit (.int .i64 0), .lit (.int .i64 0)], [], [])) (by kernel_rfl) rfl (by kernel_rfl) (sizedMet_of_sizedB (s := Rows.holdTellsSpec) (fuel := 8) (by kernel_rfl)) (laidWorld_met os _)) ?_
  intro W base args ds gs before hval0 hW _ hk hL _
  have hdoor := door_of_laid hL
  have hval : ∀ (j : Nat) t v, Tryd.f5.params[j]? = some t → args[j]? = some v → Value.okWide Tryd.prog W .any base t v := hval0
  have hW' := hW
  obtain ⟨p, q, hA0, hV, rfl, hfz, hnd⟩ := hW
  have hA : DataW.TrodAll enc Tryd.prog W 0 (fun _ => true) true Tryd.f5.params.toList args.toList ds p := hA0
  rw [Tryd.params5] at hA hval
  obtain ⟨v0, v1, v2, v3, d0, d1, d2, d3, p0, p1, p2, p3, rfl, rfl, rfl, h0, h1, h2, h3⟩ := trodAll_four hA
  obtain ⟨rfl, rfl⟩ := trodVars_none hV
  obtain ⟨A0, B0, s0, c0, e0, rfl, w0⟩ := open_sys (hval 0 25 _ rfl rfl) h0
  obtain ⟨A1, b1, c1, rfl, w1⟩ := open_slist (ti := 3) Tryd.underlying23 Tryd.underlying56 Tryd.cellsSpan rfl rfl rfl rfl Tryd.underlying3 Tryd.cellsInt (hval 1 23 _ rfl rfl) h1
  obtain ⟨n2, rfl, w2⟩ := open_i64 Tryd.underlying3 (hval 2 3 _ rfl rfl) h2
  obtain ⟨n3, rfl, w3⟩ := open_i64 Tryd.underlying3 (hval 3 3 _ rfl rfl) h3
  have hsm : Rows.uptoBulkAll _ ≤ 1048576 := of_decide_eq_true hk
  simp only [List.append_nil, Rows.uptoBulkAll] at hsm
  have bu1 : b1.length ≤ 1048576 := by have := bulk_slice Tryd.underlying23 h1; omega
  clear hA0 hval0
  refine (holdTells_walk A0 B0 s0 c0 e0 A1 b1 c1 n2 n3 W w0 w1 w2 w3 hdoor bu1).mono fun e W' ⟨he, hu⟩ => ?_
  subst he
  exact ⟨_, rfl, law_post Tryd.laidOut rfl rfl Tryd.underlying4 (fun t ht => by simp [Tryd.params5] at ht; (try rcases ht with rfl | rfl | rfl); all_goals (first | (subst ht; exact ⟨by kernel_rfl, of_decide_eq_true (by kernel_rfl)⟩) | exact ⟨by kernel_rfl, of_decide_eq_true (by kernel_rfl)⟩)) hW' rfl rfl rfl hu⟩
theorem holdTells_k1 : (Rows.holdTellsUptoRow.inPlace == Tryd.pinned.checked.prog.inPlace 5) = true := by kernel_rfl
theorem holdTells_k2 : (Rows.holdTellsUptoRow.unfollowed == Tryd.pinned.checked.prog.unfollowed 5) = true := by kernel_rfl
theorem holdTells_k3 : (Rows.holdTellsUptoRow.recurses == Tryd.pinned.checked.prog.recurses 5) = true := by kernel_rfl
theorem holdTells_k4 : (Rows.holdTellsUptoRow.named == Tryd.pinned.checked.prog.varsNamed 5) = true := by kernel_rfl
theorem holdTells_facts : joinedFacts Tryd.pinned.checked.prog 5 Tryd.f5 (Rows.OpenSpec.upto Rows.holdTellsSpec).bare Rows.holdTellsUptoRow = true :=
  joined_of _ _ _ _ _ Tryd.g1 Tryd.g2 Tryd.g3 Tryd.g4 Tryd.g5 Tryd.g6 Tryd.g7 Tryd.g8 Tryd.g9 holdTells_k1 holdTells_k2 holdTells_k3 holdTells_k4 (by kernel_rfl)
theorem holdTells_bare : Rows.HoldTellsUptoSaid :=
  OpenClaim.holds_of_cond 5 Tryd.f5 rfl rfl rfl rfl rfl rfl rfl ⟨rfl, rfl, rfl, rfl, rfl⟩ rfl rfl rfl rfl rfl (by kernel_rfl) Tryd.func5 holdTells_facts
    (of_decide_eq_true (by kernel_rfl)) (by unfold Func.isWrapper; rw [if_neg (by decide +kernel)]; exact ⟨rfl, rfl⟩)
    (fun os started H enc _ F => holdTells_lifted os started H enc F)
theorem holdTells_holds : Rows.HoldTellsUptoCardSaid :=
  Claim7.holds_tied_plain_at .later [] [.handle] true (true, "621a2e6e91883f872ece5b44a69764e3d61221f2966ad986d9e1d3ec8d089263") true holdTells_bare (fun _ h => by cases h) (by kernel_rfl) (fun _ h => by cases h) holdTellsUpto_row_tie rfl ⟨rfl, rfl⟩ door_main rfl
    (fun f fn hf hfn => by
      obtain rfl : f = 5 := Option.some.inj ((show Tryd.prog.funcNamed "spanmeadow/spanlaw2.HoldTells" = some 5 by kernel_rfl).symm.trans hf) |>.symm
      obtain rfl : fn = Tryd.f5 := (Option.some.inj (Tryd.func5.symm.trans hfn)).symm
      exact ⟨door_looks.symm, fun j t ht => by
        rw [Tryd.params5] at ht
        have hm : t ∈ [25, 23, 3] := by
          have := Array.mem_of_getElem? ht
          simpa using this
        simp only [List.mem_cons, List.not_mem_nil, or_false] at hm
        rcases hm with rfl | rfl | rfl
        · exact (show Tryd.prog.wantsStandIn 25 = false by kernel_rfl)
        · exact (show Tryd.prog.wantsStandIn 23 = false by kernel_rfl)
        · exact (show Tryd.prog.wantsStandIn 3 = false by kernel_rfl)⟩)
    (by kernel_rfl)
#print axioms holdTells_holds
end Go.Proofs.YteoomjenekkomaaDoor
