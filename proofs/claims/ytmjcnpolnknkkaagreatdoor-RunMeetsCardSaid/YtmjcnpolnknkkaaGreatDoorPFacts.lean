/- Closed facts on this seat's program that each row asks for, each by itself; the words of the dump's head are read off by lemmas, not by the kernel's run. -/
import Derived.Test.YtmjcnpolnknkkaaGreatDoorRows
import Derived.KernelRfl
import Derived.JoinedOf
set_option linter.unusedVariables false
set_option linter.unusedSimpArgs false
namespace Go.Proofs.YtmjcnpolnknkkaaGreatDoor
def ioWords : List (List Nat) := [[104, 97, 114, 110, 101, 115, 115],
  [55, 53, 52, 49, 97, 52, 98, 49, 48, 101, 53, 97, 56, 55, 48, 100, 99, 101, 101, 54, 50, 57, 55, 99, 53, 55, 99, 56, 52, 102, 51, 99, 54, 101, 100, 50, 54, 53, 48, 48, 102, 101, 52, 53, 50, 48, 53, 56, 48, 56, 98, 52, 100, 57, 100, 101, 55, 49, 52, 53, 102, 100, 98, 48],
  [99, 117, 116],
  [97, 116],
  [115, 112, 97, 110, 109, 101, 97, 100, 111, 119, 47, 115, 112, 97, 110, 108, 97, 119, 49, 46, 85, 110, 105, 116, 84, 101, 108, 108, 115],
  [115, 112, 97, 110, 109, 101, 97, 100, 111, 119, 47, 115, 112, 97, 110, 108, 97, 119, 51, 46, 82, 117, 110, 65, 110, 115, 119, 101, 114, 115],
  [115, 112, 97, 110, 109, 101, 97, 100, 111, 119, 47, 115, 112, 97, 110, 108, 97, 119, 51, 46, 82, 117, 110, 66, 101, 103, 105, 110, 115],
  [115, 112, 97, 110, 109, 101, 97, 100, 111, 119, 47, 115, 112, 97, 110, 108, 97, 119, 51, 46, 82, 117, 110, 77, 101, 101, 116, 115],
  [115, 112, 97, 110, 109, 101, 97, 100, 111, 119, 47, 115, 112, 97, 110, 116, 111, 112, 46, 84, 111, 112, 75, 101, 112, 116]]
def joinW : List (List Char) → List Char
  | [] => []
  | [w] => w
  | w :: v :: ws => w ++ Char.ofNat 32 :: joinW (v :: ws)
theorem wordsSigns_blank (r : List Char) : wordsSigns (Char.ofNat 32 :: r) = [] :: wordsSigns r := by
  rw [wordsSigns]
theorem wordsSigns_cons (c : Char) (r : List Char) (hc : c ≠ Char.ofNat 32) (w : List Char) (ws : List (List Char)) (hr : wordsSigns r = w :: ws) : wordsSigns (c :: r) = (c :: w) :: ws := by
  rw [wordsSigns]
  · rw [hr]
  · first | (intro h; exact hc h) | (rename_i h; exact hc h)
theorem wordsSigns_plain : ∀ w : List Char, (∀ c ∈ w, c ≠ Char.ofNat 32) → wordsSigns w = [w]
  | [], _ => by simp [wordsSigns]
  | c :: r, h => wordsSigns_cons c r (h c (by simp)) r [] (wordsSigns_plain r (fun x hx => h x (by simp [hx])))
theorem wordsSigns_step : ∀ (w r : List Char), (∀ c ∈ w, c ≠ Char.ofNat 32) → wordsSigns (w ++ Char.ofNat 32 :: r) = w :: wordsSigns r
  | [], r, _ => wordsSigns_blank r
  | c :: w, r, h => wordsSigns_cons c (w ++ Char.ofNat 32 :: r) (h c (by simp)) w (wordsSigns r) (wordsSigns_step w r (fun x hx => h x (by simp [hx])))
theorem words_join : ∀ ws : List (List Char), ws ≠ [] → (∀ w ∈ ws, ∀ c ∈ w, c ≠ Char.ofNat 32) → wordsSigns (joinW ws) = ws
  | [], h, _ => absurd rfl h
  | [w], _, h => wordsSigns_plain w (h w (by simp))
  | w :: v :: ws, _, h => by
    show wordsSigns (w ++ Char.ofNat 32 :: joinW (v :: ws)) = _
    rw [wordsSigns_step w _ (h w (by simp)), words_join (v :: ws) (by simp) (fun x hx => h x (by simp [hx]))]
def ioW : List (List Char) := ioWords.map (·.map Char.ofNat)
set_option maxRecDepth 100000 in
theorem io : Tryz.pinned.checked.prog.initOrder.toList = joinW ioW := String.toList_ofList (l := joinW ioW)
theorem ioPlain : (ioWords.all fun w => w.all fun n => n != 32 && decide (n < 128)) = true := by kernel_rfl
theorem ne32 (n : Nat) (h : n ≠ 32) (h1 : n < 128) : Char.ofNat n ≠ Char.ofNat 32 := by
  intro e
  have h2 : ∀ m, m < 128 → (Char.ofNat m).toNat = m := fun m hm => by
    unfold Char.ofNat
    rw [dif_pos (Or.inl (by omega))]
    simp [Char.toNat, Char.ofNatAux]
  have := congrArg Char.toNat e
  rw [h2 n h1, h2 32 (by omega)] at this
  exact h this
theorem ioWs : wordsSigns Tryz.pinned.checked.prog.initOrder.toList = ioW := by
  rw [io]
  refine words_join ioW (by simp [ioW, ioWords]) ?_
  intro w hw c hc
  obtain ⟨v, hv, rfl⟩ := List.mem_map.1 hw
  obtain ⟨n, hn, rfl⟩ := List.mem_map.1 hc
  have := List.all_eq_true.1 (List.all_eq_true.1 ioPlain v hv) n hn
  simp at this
  exact ne32 n this.1 this.2
theorem mayEnter_of (P : Program) (l : List (List Char)) (h : wordsSigns P.initOrder.toList = l)
    (hl : (match behindMainWord l with
      | c :: rest => ((stripLifts liftWords (c :: rest)).2.head? == some "cut".toList) && ((stripLifts liftWords (c :: rest)).1 == [])
      | [] => false) = true) (a1 : P.laysLater = false) (a2 : P.bearsReflect = false) (a3 : P.doorFits [] = true) : P.mayEnter = true := by
  unfold Program.mayEnter
  rw [h]
  generalize behindMainWord l = l at hl ⊢
  cases l with
  | nil => cases hl
  | cons c rest =>
    simp only [Bool.and_eq_true, beq_iff_eq] at hl
    dsimp only
    rw [hl.1, hl.2, a1, a2, a3]
    simp
theorem make_of (P : Program) (l : List (List Char)) (h : wordsSigns P.initOrder.toList = l)
    (hl : (match behindMainWord l with | c :: rest => (!(c == "gc".toList || c == "spec".toList)) && (c == "cut".toList || (c == "finals".toList && rest.head? == some "cut".toList)) | [] => false) = true) : P.make = some .cut := by
  unfold Program.make
  rw [h]
  generalize behindMainWord l = l at hl ⊢
  cases l with
  | nil => cases hl
  | cons c rest =>
    simp only [Bool.and_eq_true, Bool.not_eq_true'] at hl
    dsimp only
    rw [hl.1, hl.2]
    rfl
theorem lifts_of (P : Program) (l : List (List Char)) (h : wordsSigns P.initOrder.toList = l)
    (hl : ((((behindMainWord l).head? == some "carried".toList && (behindMainWord l).take 3 != ["carried".toList, "gc".toList, "cut".toList])) ||
      (if (stripLifts liftWords (behindMainWord l)).2.head? == some "cut".toList then (stripLifts liftWords (behindMainWord l)).1 else []).contains "finals") = false) : P.liftsFinal = false := by
  unfold Program.liftsFinal Program.headLifts
  rw [h]
  exact hl
theorem Tryz.g1 : laidOutB Tryz.pinned.checked.prog = true := by kernel_rfl
theorem Tryz.g2 : mapsRowed Tryz.pinned.checked.prog = true := by kernel_rfl
theorem Tryz.g3 : Tryz.pinned.checked.prog.stops = [] := by kernel_rfl
theorem Tryz.g4 : Tryz.pinned.checked.prog.stopKnobs = [] := by kernel_rfl
theorem Tryz.g5 : Tryz.pinned.checked.prog.plainKeys = true := by kernel_rfl
theorem Tryz.g6 : Tryz.pinned.checked.prog.stopsHeard = true := by kernel_rfl
theorem Tryz.g7 : Tryz.pinned.checked.prog.mayEnter = true := mayEnter_of _ ioW ioWs (by kernel_rfl) (by kernel_rfl) (by kernel_rfl) (by kernel_rfl)
theorem Tryz.g8 : Tryz.pinned.checked.prog.liftsFinal = false := lifts_of _ ioW ioWs (by kernel_rfl)
theorem Tryz.g9 : Tryz.pinned.checked.prog.make = some .cut := make_of _ ioW ioWs (by kernel_rfl)

/-- The facts that a law's row asks for: those on the program alone are above; the four that go over the calls, and the rest. -/
theorem joined_of (P : Program) (f : FuncId) (fn : Func) (s : ChangeSpec) (c : OpenClaim)
    (g1 : laidOutB P = true) (g2 : mapsRowed P = true) (g3 : P.stops = []) (g4 : P.stopKnobs = []) (g5 : P.plainKeys = true) (g6 : P.stopsHeard = true) (g7 : P.mayEnter = true) (g8 : P.liftsFinal = false) (g9 : P.make = some .cut)
    (k1 : (c.inPlace == P.inPlace f) = true) (k2 : (c.unfollowed == P.unfollowed f) = true) (k3 : (c.recurses == P.recurses f) = true) (k4 : (c.named == P.varsNamed f) = true)
    (rest : (c.wf (OpenSpec.ofChange s) && fn.params.all (P.readableRec ·) && namedTie P c.named s.vars && (c.stops == []) && (c.knobs == []) &&
      (c.maps == (fn.params.toList ++ s.plain.varTypes P).any (P.mapsRec ·)) && (c.ifaces == (fn.params.toList ++ s.plain.varTypes P).any (P.ifacesRec ·)) && (c.mapsOut == P.mapsAmong fn.resultTypes.toList) &&
      (c.loops == (fn.params.toList ++ s.plain.varTypes P).any (P.loopsFrom ·)) && (c.wideKeys == (fn.params.toList ++ s.plain.varTypes P ++ fn.resultTypes.toList).any (P.wideKeysFrom ·)) &&
      s.vars.all (P.varReadable ·) && fn.resultTypes.all (fun t => P.readableRec t && decide (t < P.types.size)) && (c.ifacesOut == fn.resultTypes.toList.any (P.ifacesRec ·)) && (c.loopsOut == fn.resultTypes.toList.any (P.loopsFrom ·)) &&
      (c.plainKeys == true) && c.shortTexts.isNone && (c.lifted == false) && (some .cut == some c.make) && (c.kinds == (if c.domain.isEmpty then [] else fn.params.toList.map fun t => match P.underlying t with | some (.int k) => some k | _ => none)) && (c.pinned == c.pinnedBy) &&
      (c.veiled == (fn.params.toList ++ s.plain.varTypes P ++ fn.resultTypes.toList).any (P.veiledRec ·)) && c.veiledFits P fn.params.toList (fn.params.toList ++ s.plain.varTypes P ++ fn.resultTypes.toList)) = true) :
    joinedFacts P f fn s c = true := by
  simp only [Bool.and_eq_true] at rest
  obtain ⟨⟨⟨⟨⟨⟨⟨⟨⟨⟨⟨⟨⟨⟨⟨⟨⟨⟨⟨⟨⟨r1, r2⟩, r3⟩, r4⟩, r5⟩, r6⟩, r7⟩, r8⟩, r9⟩, r10⟩, r11⟩, r12⟩, r13⟩, r14⟩, r15⟩, r16⟩, r17⟩, r18⟩, r19⟩, r20⟩, r21⟩, r22⟩ := rest
  unfold joinedFacts
  simp only [g1, g2, g3, g4, g5, g6, g7, g8, g9, k1, k2, k3, k4, r1, r2, r3, r4, r5, r6, r7, r8, r9, r10, r11, r12, r13, r14, r15, r16, r17, r18, r19, r20, r21, r22, Bool.and_self, beq_self_eq_true, Bool.true_and, Bool.and_true]
  exact r19
end Go.Proofs.YtmjcnpolnknkkaaGreatDoor
