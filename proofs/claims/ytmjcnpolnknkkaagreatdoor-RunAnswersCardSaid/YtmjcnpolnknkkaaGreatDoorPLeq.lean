/- RunAnswers: any session is answered, line by line, as the reference answers it. -/
import Derived.Test.YtmjcnpolnknkkaaGreatDoorZ7
import Derived.Test.YtmjcnpolnknkkaaGreatDoorZC
import Derived.Test.YtmjcnpolnknkkaaGreatDoorZE
import Derived.Test.YtmjcnpolnknkkaaGreatDoorPDoor
import Derived.JoinedCond
import Derived.Test.YtmjcnpolnknkkaaGreatDoorPRow
import Derived.ChangeMaps5
import Derived.Deep.DeepCutAuto
import Derived.IntWalk
set_option linter.unusedVariables false
set_option linter.unusedSimpArgs false
namespace Go.Proofs.YtmjcnpolnknkkaaGreatDoor
open Go.ChangeShapes Go.WideShapes Go.ChangeAt Go.RowKit Go.Joins Go.Deep

theorem say_snoc (l : List (List UInt8)) (k : Nat) (h : k < l.length) : sayF (l.take (k + 1)) = sayF (l.take k) ++ (answerF (l[k]?.getD []) ++ [10]) := by
  unfold sayF
  rw [List.take_succ_eq_append_getElem h, List.getElem?_eq_getElem h, List.flatMap_append]
  simp only [List.flatMap_cons, List.flatMap_nil, List.append_nil, Option.getD_some]
/-- The rows of a text: all that was cut, or all but the last one, which is empty. -/
theorem rows_ways (t : List UInt8) : ∃ m, m ≤ (splitF 10 t).length ∧ rowsF t = (splitF 10 t).take m ∧ (((splitF 10 t)[(splitF 10 t).length - 1]?.getD [] = [] ∧ m = (splitF 10 t).length - 1) ∨ (¬ (splitF 10 t)[(splitF 10 t).length - 1]?.getD [] = [] ∧ m = (splitF 10 t).length)) := by
  have hp := split_pos 10 t
  unfold rowsF
  generalize splitF 10 t = l at *
  have hg : l.getLast? = some (l[l.length - 1]?.getD []) := by
    rw [List.getLast?_eq_getElem?, List.getElem?_eq_getElem (show l.length - 1 < l.length by omega)]
    rfl
  unfold dropE
  by_cases h : l[l.length - 1]?.getD [] = []
  · refine ⟨l.length - 1, by omega, ?_, .inl ⟨h, rfl⟩⟩
    rw [hg, h, if_pos rfl, List.dropLast_eq_take]
  · refine ⟨l.length, Nat.le_refl _, ?_, .inr ⟨h, rfl⟩⟩
    rw [hg, if_neg (fun e => h (by injection e)), List.take_length]
set_option maxRecDepth 100000 in
set_option maxHeartbeats 8000000 in
theorem runAnswers_walk (t : List UInt8) (w : World) (_h : (⟨t.toArray⟩ : ByteArray).size ≤ maxLen) (hd : DoorR w) :
    Calls Tryz.prog 4 #[.string ⟨t.toArray⟩] w (LawEnd w) := by
  clear _h
  by_cases hlong : 3000 < t.length
  · have HR := hid (fun W => run_long t W hlong)
    have h1 : (3000 : Int) < (t.length : Int) := by omega
    clear hlong hd
    go_enter Tryz.func4, Tryz.ntmps4
    go_wp2_with (first
                        | ((go_at_call 19; (with_reducible refine (HR.out _).mono ?_); rintro e w1 ⟨x1, rfl, rfl, hb1⟩) <;> (have hle := Up.le hb1; (try simp only [World.size_alloc, World.size_setCell, World.size_drew, World.heap_drewN] at hle); clear hle)))
    go_ret
    exact LawEnd.mk (by first | rfl | (simp; done)) (by (repeat (first | (with_reducible exact Up.refl _) | (with_reducible assumption) | (with_reducible refine Up.alloc ?_ _) | (with_reducible refine Up.drew ?_) | ((with_reducible refine Up.set ?_ ?_ _); rotate_left; focus (first | omega | (simp; done) | (simp; omega))) | (with_reducible refine Up.drewN ?_ _) | (with_reducible refine Up.call ?_ (by with_reducible assumption)))))
  · have h1 : ¬ (3000 : Int) < (t.length : Int) := by omega
    have ht : t.length ≤ 3000 := by omega
    have HR := hid (fun W hW => run_any t W ht hW)
    have HD := hid hd
    have HS := hid (fun W => show Calls Tryz.prog 20 #[.string ⟨t.toArray⟩, .int .u8 10] W (RetR wdR (splitF 10 t) W) from rcut_any 10 t W (by omega))
    obtain ⟨m, hm, hrows, hways⟩ := rows_ways t
    have HV := hid (show sessF t = sayF ((splitF 10 t).take m) by unfold sessF; rw [hrows])
    have HL := hid (split_len 10 t).2
    have HLn := hid (sess_len ht)
    have hp := split_pos 10 t
    have hpl := (split_len 10 t).1
    clear hrows hd hlong
    generalize splitF 10 t = ws at *
    generalize sessF t = R at *
    obtain ⟨q, hq⟩ : ∃ q, ws.length = q + 1 := ⟨ws.length - 1, by omega⟩
    have hw0 : (ws.length : Int) - 1 = (q : Int) := by omega
    have hw1 : IntKind.i64.wrap ((ws.length : Int) - 1) = (q : Int) := by rw [hw0]; exact IntWalk.i64_in _ (by omega)
    have hq1 : (q : Int) < (ws.length : Int) := by omega
    have hq2 : q < ws.length := by omega
    have hq3 : (0 : Int) ≤ (q : Int) := by omega
    have hq4 : ws.length - 1 = q := by omega
    rw [hq4] at hways
    clear hq hq4
    go_enter Tryz.func4, Tryz.ntmps4
    go_upto_region 5 with (first
      | ((go_at_call 19; (with_reducible refine (HR.out _ HD.out).mono ?_); rintro e w1 ⟨x1, rfl, rfl, hb1⟩) <;> (have hle := Up.le hb1; (try simp only [World.size_alloc, World.size_setCell, World.size_drew, World.heap_drewN] at hle); clear hle))
      | ((go_at_call 20; (with_reducible refine (HS.out _).mono ?_); rintro e w2 ⟨x2, v2, rfl, rfl, hv2, hb2⟩ <;> (obtain ⟨g, cg, rfl, hg, hcg, hcs⟩ := hv2; have HC := hid hcs; clear hcs)) <;> (have hle := Up.le hb2; (try simp only [World.size_alloc, World.size_setCell, World.size_drew, World.heap_drewN] at hle); clear hle)))
    have kl := HC.out q hq2
    rcases hways with ⟨hlast, hmq⟩ | ⟨hlast, hmq⟩
    · rw [hlast] at kl
      subst hmq
      have hm2 : (m : Int) ≤ (ws.length : Int) := by omega
      have hm3 : (m : Int) ≤ (cg : Int) := by omega
      have hm4 : m ≤ cg := by omega
      clear hlast
      go_wp2_with fail
      go_loopw [5, 6, 7] (fun v i _ wr => ∃ k : Nat, k ≤ m ∧ i = .int .i64 (k : Int) ∧ v = .string ⟨(sayF (ws.take k)).toArray⟩ ∧ Up w2 wr) (fun _ i _ _ => m - (intOf i).toNat)
      case atStart => exact ⟨0, by omega, rfl, rfl, by (repeat (first | (with_reducible exact Up.refl _) | (with_reducible assumption) | (with_reducible refine Up.alloc ?_ _) | (with_reducible refine Up.drew ?_) | ((with_reducible refine Up.set ?_ ?_ _); rotate_left; focus (first | omega | (simp; done) | (simp; omega))) | (with_reducible refine Up.drewN ?_ _) | (with_reducible refine Up.call ?_ (by with_reducible assumption))))⟩
      case round =>
        obtain ⟨k, hk, rfl, rfl, hU⟩ := hrel
        have hk0 : (0 : Int) ≤ (k : Int) := by omega
        have hsl := say_len (ws.take k)
        rw [List.length_take] at hsl
        by_cases hlt : k < m
        · have hkl : (k : Int) < (m : Int) := by omega
          have hkd : decide ((k : Int) < (m : Int)) = true := decide_eq_true hkl
          have hkw : k < ws.length := by omega
          have qk := ((bcell hU).1 _ _ hg).trans (HC.out k hkw)
          have hyl := HL.out (ws[k]?.getD []) (by rw [List.getElem?_eq_getElem hkw]; exact List.getElem_mem hkw)
          have Hsn := hid (say_snoc ws k hkw)
          have hal := answer_len (ws[k]?.getD [])
          have HY := hid (show (ws[k]?.getD []).length ≤ 4000 by omega)
          have HJ := hid hlt
          generalize ws[k]?.getD [] = y at *
          generalize sayF (ws.take k) = S at *
          have HLi := hid (fun W => rline_any y W HY.out)
          generalize answerF y = A at *
          have q1 : ¬ 9223372036854775807 < S.length + A.length := by omega
          have q2 : ¬ 9223372036854775807 < S.length + A.length + 1 := by omega
          clear hlt hyl hsl hal
          go_wp2_with (first
                        | ((go_at_call 21; (with_reducible refine (HLi.out _).mono ?_); rintro e w3 ⟨x3, rfl, rfl, hb3⟩) <;> (have hle := Up.le hb3; (try simp only [World.size_alloc, World.size_setCell, World.size_drew, World.heap_drewN] at hle); clear hle)))
          go_roundw
          case rel => exact ⟨k + 1, HJ.out, by go_num, by rw [Hsn.out]; exact congrArg Value.string (by apply ByteArray.ext; simp), by (repeat (first | (with_reducible exact Up.refl _) | (with_reducible assumption) | (with_reducible refine Up.alloc ?_ _) | (with_reducible refine Up.drew ?_) | ((with_reducible refine Up.set ?_ ?_ _); rotate_left; focus (first | omega | (simp; done) | (simp; omega))) | (with_reducible refine Up.drewN ?_ _) | (with_reducible refine Up.call ?_ (by with_reducible assumption))))⟩
          case measure => have := HJ.out; simp [intOf]; omega
        · obtain rfl : m = k := by omega
          have hkl : ¬ (m : Int) < (m : Int) := by omega
          have hkd : decide ((m : Int) < (m : Int)) = false := decide_eq_false hkl
          have HE := hid (show R = sayF (ws.take m) from HV.out)
          rw [← HE.out]
          clear hsl
          go_wp2
          go_ret
          exact LawEnd.mk (by first | rfl | (simp; done)) (by (repeat (first | (with_reducible exact Up.refl _) | (with_reducible assumption) | (with_reducible refine Up.alloc ?_ _) | (with_reducible refine Up.drew ?_) | ((with_reducible refine Up.set ?_ ?_ _); rotate_left; focus (first | omega | (simp; done) | (simp; omega))) | (with_reducible refine Up.drewN ?_ _) | (with_reducible refine Up.call ?_ (by with_reducible assumption)))))
    · generalize ws[q]?.getD [] = z at *
      have hz1 : (z == []) = false := beq_eq_false_iff_ne.2 hlast
      subst hmq
      go_wp2_with fail
      go_loopw [5, 6, 7] (fun v i _ wr => ∃ k : Nat, k ≤ ws.length ∧ i = .int .i64 (k : Int) ∧ v = .string ⟨(sayF (ws.take k)).toArray⟩ ∧ Up w2 wr) (fun _ i _ _ => ws.length - (intOf i).toNat)
      case atStart => exact ⟨0, by omega, rfl, rfl, by (repeat (first | (with_reducible exact Up.refl _) | (with_reducible assumption) | (with_reducible refine Up.alloc ?_ _) | (with_reducible refine Up.drew ?_) | ((with_reducible refine Up.set ?_ ?_ _); rotate_left; focus (first | omega | (simp; done) | (simp; omega))) | (with_reducible refine Up.drewN ?_ _) | (with_reducible refine Up.call ?_ (by with_reducible assumption))))⟩
      case round =>
        obtain ⟨k, hk, rfl, rfl, hU⟩ := hrel
        have hk0 : (0 : Int) ≤ (k : Int) := by omega
        have hsl := say_len (ws.take k)
        rw [List.length_take] at hsl
        by_cases hlt : k < ws.length
        · have hkl : (k : Int) < (ws.length : Int) := by omega
          have hkd : decide ((k : Int) < (ws.length : Int)) = true := decide_eq_true hkl
          have hkw : k < ws.length := by omega
          have qk := ((bcell hU).1 _ _ hg).trans (HC.out k hkw)
          have hyl := HL.out (ws[k]?.getD []) (by rw [List.getElem?_eq_getElem hkw]; exact List.getElem_mem hkw)
          have Hsn := hid (say_snoc ws k hkw)
          have hal := answer_len (ws[k]?.getD [])
          have HY := hid (show (ws[k]?.getD []).length ≤ 4000 by omega)
          have HJ := hid hlt
          generalize ws[k]?.getD [] = y at *
          generalize sayF (ws.take k) = S at *
          have HLi := hid (fun W => rline_any y W HY.out)
          generalize answerF y = A at *
          have q1 : ¬ 9223372036854775807 < S.length + A.length := by omega
          have q2 : ¬ 9223372036854775807 < S.length + A.length + 1 := by omega
          clear hlt hyl hsl hal
          go_wp2_with (first
                        | ((go_at_call 21; (with_reducible refine (HLi.out _).mono ?_); rintro e w3 ⟨x3, rfl, rfl, hb3⟩) <;> (have hle := Up.le hb3; (try simp only [World.size_alloc, World.size_setCell, World.size_drew, World.heap_drewN] at hle); clear hle)))
          go_roundw
          case rel => exact ⟨k + 1, HJ.out, by go_num, by rw [Hsn.out]; exact congrArg Value.string (by apply ByteArray.ext; simp), by (repeat (first | (with_reducible exact Up.refl _) | (with_reducible assumption) | (with_reducible refine Up.alloc ?_ _) | (with_reducible refine Up.drew ?_) | ((with_reducible refine Up.set ?_ ?_ _); rotate_left; focus (first | omega | (simp; done) | (simp; omega))) | (with_reducible refine Up.drewN ?_ _) | (with_reducible refine Up.call ?_ (by with_reducible assumption))))⟩
          case measure => have := HJ.out; simp [intOf]; omega
        · obtain rfl : ws.length = k := by omega
          have hkl : ¬ (ws.length : Int) < (ws.length : Int) := by omega
          have hkd : decide ((ws.length : Int) < (ws.length : Int)) = false := decide_eq_false hkl
          have HE := hid (show R = sayF (ws.take ws.length) from HV.out)
          rw [← HE.out]
          clear hsl
          go_wp2
          go_ret
          exact LawEnd.mk (by first | rfl | (simp; done)) (by (repeat (first | (with_reducible exact Up.refl _) | (with_reducible assumption) | (with_reducible refine Up.alloc ?_ _) | (with_reducible refine Up.drew ?_) | ((with_reducible refine Up.set ?_ ?_ _); rotate_left; focus (first | omega | (simp; done) | (simp; omega))) | (with_reducible refine Up.drewN ?_ _) | (with_reducible refine Up.call ?_ (by with_reducible assumption)))))
set_option maxRecDepth 100000 in
theorem runAnswers_lifted (os : Os) (started : os.Started) (H : Type) (enc : TypeId × Value → H) :
    ReturnsInHanded {} Tryz.checked os 4 .any (fun w args => (Rows.runAnswersSpec.pre enc Tryz.prog Tryz.f4 [] false w args ∧ laidMetH Tryz.prog laidR9 w) ∧ sizedMet enc Tryz.prog Tryz.f4 (OpenSpec.ofChange Rows.runAnswersSpec) false w args) (Rows.runAnswersSpec.post enc Tryz.prog Tryz.f4 false true false false) := by
  refine returnsInHanded_of_change_and (C := Tryz.checked) (X := fun w _ => laidMetH Tryz.prog laidR9 w) (fun _ _ _ hh h => h.of_heap hh) Tryz.own started (by kernel_rfl) Tryz.func4
    (ChangeSpec.witness_at (enc := enc) (C := Tryz.checked) (os := os) (X := fun w _ => laidMetH Tryz.prog laidR9 w) false (laidWorldR os) #[.string ⟨#[]⟩] 8 rfl (by kernel_rfl) (by kernel_rfl) (by kernel_rfl) (by kernel_rfl) (by kernel_rfl) (laidWorldR_met os _)) ?_
  intro W base args ds gs before hval0 hW _ _ hL _
  have hdoor := doorR_of_laid hL
  have hval : ∀ (j : Nat) t v, Tryz.f4.params[j]? = some t → args[j]? = some v → Value.okWide Tryz.prog W .any base t v := hval0
  have hW' := hW
  obtain ⟨p, q, hA0, hV, rfl, hfz, hnd⟩ := hW
  have hA : DataW.TrodAll enc Tryz.prog W 0 (fun _ => true) true Tryz.f4.params.toList args.toList ds p := hA0
  rw [Tryz.params4] at hA hval
  obtain ⟨v0, d0, rfl, rfl, h0⟩ := trodAll_one hA
  obtain ⟨rfl, rfl⟩ := trodVars_none hV
  obtain ⟨z0, rfl, e0, f0, w0⟩ := Go.ChangeMaps.open_string Tryz.underlying9 (hval 0 9 _ rfl rfl) h0
  obtain ⟨l0, rfl⟩ : ∃ l : List UInt8, z0 = ⟨l.toArray⟩ := ⟨z0.data.toList, by cases z0; rfl⟩
  (try subst e0)
  clear hA0 hval0
  refine (runAnswers_walk l0 W w0 hdoor).mono fun e W' ⟨he, hu⟩ => ?_
  subst he
  exact ⟨_, rfl, law_post Tryz.laidOut rfl rfl Tryz.underlying4 (fun t ht => by simp [Tryz.params4] at ht; (try rcases ht with rfl); all_goals (first | (subst ht; exact ⟨by kernel_rfl, of_decide_eq_true (by kernel_rfl)⟩) | exact ⟨by kernel_rfl, of_decide_eq_true (by kernel_rfl)⟩)) hW' rfl rfl rfl hu⟩
theorem runAnswers_k1 : (Rows.runAnswersRow.inPlace == Tryz.pinned.checked.prog.inPlace 4) = true := by kernel_rfl
theorem runAnswers_k2 : (Rows.runAnswersRow.unfollowed == Tryz.pinned.checked.prog.unfollowed 4) = true := by kernel_rfl
theorem runAnswers_k3 : (Rows.runAnswersRow.recurses == Tryz.pinned.checked.prog.recurses 4) = true := by kernel_rfl
theorem runAnswers_k4 : (Rows.runAnswersRow.named == Tryz.pinned.checked.prog.varsNamed 4) = true := by kernel_rfl
theorem runAnswers_facts : joinedFacts Tryz.pinned.checked.prog 4 Tryz.f4 Rows.runAnswersSpec Rows.runAnswersRow = true :=
  joined_of _ _ _ _ _ Tryz.g1 Tryz.g2 Tryz.g3 Tryz.g4 Tryz.g5 Tryz.g6 Tryz.g7 Tryz.g8 Tryz.g9 runAnswers_k1 runAnswers_k2 runAnswers_k3 runAnswers_k4 (by kernel_rfl)
theorem runAnswers_bare : Rows.RunAnswersSaid :=
  OpenClaim.holds_of_wide 4 Tryz.f4 rfl rfl rfl rfl rfl rfl rfl ⟨rfl, rfl, rfl, rfl, rfl⟩ rfl rfl rfl rfl rfl (by kernel_rfl) Tryz.func4 runAnswers_facts
    (of_decide_eq_true (by kernel_rfl)) (by unfold Func.isWrapper; rw [if_neg (by decide +kernel)]; exact ⟨rfl, rfl⟩)
    (fun os started H enc _ => runAnswers_lifted os started H enc)
theorem runAnswers_holds : Rows.RunAnswersCardSaid :=
  Claim7.holds_tied_plain_at .later [] [.data, .data, .data, .data, .handle, .sentinel, .sentinel, .wider, .pinned] true (true, "7541a4b10e5a870dcee6297c57c84f3c6ed26500fe45205808b4d9de7145fdb0") true runAnswers_bare (fun _ h => by cases h) (by kernel_rfl) (fun _ h => by cases h) runAnswers_row_tie rfl ⟨rfl, rfl⟩ door_main rfl
    (fun f fn hf hfn => by
      obtain rfl : f = 4 := Option.some.inj ((show Tryz.prog.funcNamed "spanmeadow/spanlaw3.RunAnswers" = some 4 by kernel_rfl).symm.trans hf) |>.symm
      obtain rfl : fn = Tryz.f4 := (Option.some.inj (Tryz.func4.symm.trans hfn)).symm
      exact ⟨door_looks.symm, fun j t ht => by
        rw [Tryz.params4] at ht
        have hm : t ∈ [9] := by
          have := Array.mem_of_getElem? ht
          simpa using this
        simp only [List.mem_cons, List.not_mem_nil, or_false] at hm
        rcases hm with rfl
        · exact (show Tryz.prog.wantsStandIn 9 = false by kernel_rfl)⟩)
    (by kernel_rfl)
#print axioms runAnswers_holds
end Go.Proofs.YtmjcnpolnknkkaaGreatDoor
