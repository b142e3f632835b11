/- Sessions, plain: what the reference's lines ask of what was read. Sessions, plain: a polynomial over a span, as the reference takes it. -/
import Derived.Test.YtmjcnpolnknkkaaGreatDoorZ6
import Derived.Test.YtmjcnpolnknkkaaGreatDoorZ8
import Derived.Test.YtmjcnpolnknkkaaGreatDoorPRfg
import Derived.Test.YtmjcnpolnknkkaaGreatDoorPRfp
import Derived.Test.YtmjcnpolnknkkaaGreatDoorPRft
set_option linter.unusedVariables false
set_option linter.unusedSimpArgs false
namespace Go.Proofs.YtmjcnpolnknkkaaGreatDoor
open Go.RowKit

def ansF : Except (Option Nat) (List UInt8) → List UInt8
  | .ok t => t
  | .error none => [98, 97, 100]
  | .error (some n) => nameF n
theorem answer_ans (s : List UInt8) : answerF s = ansF (lineF s) := by
  unfold answerF ansF
  rfl
theorem tell_ans (r : Except Nat Sp) : ansF (told2 r) = tellF (got r) (eO r) := by cases r <;> rfl
theorem parse_M {s : List UInt8} {n : Int} (h : parseF s = .ok n) : M n := by
  unfold parseF at h
  split at h
  · cases h
  · split at h
    · rename_i h1
      injection h with h
      subst h
      exact h1
    · cases h
theorem nums_M : ∀ {l : List (List UInt8)} {L : List Int}, numsF l = some L → ∀ n ∈ L, M n
  | [], L, h => by
    injection h with h
    subst h
    intro n hn
    cases hn
  | w :: r, L, h => by
    unfold numsF at h
    split at h
    · cases h
    · rename_i n hn
      split at h
      · cases h
      · rename_i l hl
        injection h with h
        subst h
        intro m hm
        rcases List.mem_cons.1 hm with rfl | hm
        · exact parse_M hn
        · exact nums_M hl m hm
theorem rnums_M {s : List UInt8} {L : List Int} (h : rnumsF s = some L) : ∀ n ∈ L, M n := nums_M h
theorem span_rt {s : List UInt8} {p : Sp} (h : spanF s = some p) : Rt p := by
  unfold spanF at h
  split at h
  · rename_i a b hl
    split at h
    · rename_i hab
      injection h with h
      subst h
      have := rnums_M hl
      exact ⟨this a (by simp), this b (by simp), hab⟩
    · cases h
  · cases h
theorem two_of_rt {f : Sp → Sp → Except Nat Sp} {a b : Sp} (ha : Rt a) (hb : Rt b) : twoF f a b = f a b := by
  unfold twoF
  rw [checkF_none.2 ha]
  dsimp only
  rw [checkF_none.2 hb]
theorem open_rf {P : Program} {f : FuncId} {args : Array Value} {W : World} {r : Except Nat Sp} (h : Calls P f args W (RetX rfR r W)) :
    Calls P f args W (fun e w' => e = .returned (.tuple #[.agg #[.int .i64 (got r).lo, .int .i64 (got r).hi], .int .i64 (numO (eO r))]) ∧ Up W w') :=
  h.mono fun e w' ⟨x, hx, he, hu⟩ => ⟨by rw [he, ← hx, rfR_open], hu⟩
theorem wd3 {w : World} {a b c : List UInt8} {v : Value} (h : wdR w [a, b, c] v) : ∃ g cg : Nat, v = .slice (some ⟨g, 0, none⟩) 3 cg ∧ 3 ≤ cg ∧ g < w.heap.size ∧ ∀ W, Up w W →
    W.cell? ⟨g, 0, none⟩ = some (.string ⟨a.toArray⟩) ∧ W.cell? ⟨g, 1, none⟩ = some (.string ⟨b.toArray⟩) ∧ W.cell? ⟨g, 2, none⟩ = some (.string ⟨c.toArray⟩) := by
  obtain ⟨g, cg, hv, hg, hc, hx⟩ := h
  exact ⟨g, cg, hv, hc, hg, fun W hu => ⟨((bcell hu).1 _ _ hg).trans (hx 0 (by simp)), ((bcell hu).1 _ _ hg).trans (hx 1 (by simp)), ((bcell hu).1 _ _ hg).trans (hx 2 (by simp))⟩⟩
theorem wd4 {w : World} {a b c d : List UInt8} {v : Value} (h : wdR w [a, b, c, d] v) : ∃ g cg : Nat, v = .slice (some ⟨g, 0, none⟩) 4 cg ∧ 4 ≤ cg ∧ g < w.heap.size ∧ ∀ W, Up w W →
    W.cell? ⟨g, 0, none⟩ = some (.string ⟨a.toArray⟩) ∧ W.cell? ⟨g, 1, none⟩ = some (.string ⟨b.toArray⟩) ∧ W.cell? ⟨g, 2, none⟩ = some (.string ⟨c.toArray⟩) ∧ W.cell? ⟨g, 3, none⟩ = some (.string ⟨d.toArray⟩) := by
  obtain ⟨g, cg, hv, hg, hc, hx⟩ := h
  exact ⟨g, cg, hv, hc, hg, fun W hu => ⟨((bcell hu).1 _ _ hg).trans (hx 0 (by simp)), ((bcell hu).1 _ _ hg).trans (hx 1 (by simp)), ((bcell hu).1 _ _ hg).trans (hx 2 (by simp)), ((bcell hu).1 _ _ hg).trans (hx 3 (by simp))⟩⟩
theorem op_six {a : List UInt8} {f : Sp → Sp → Except Nat Sp} (h : opF a = some f) :
    ((a == [97, 100, 100]) = true ∧ f = sumF) ∨
    ((a == [97, 100, 100]) = false ∧ (a == [108, 101, 115, 115]) = true ∧ f = restF) ∨
    ((a == [97, 100, 100]) = false ∧ (a == [108, 101, 115, 115]) = false ∧ (a == [116, 105, 109, 101, 115]) = true ∧ f = prodF) ∨
    ((a == [97, 100, 100]) = false ∧ (a == [108, 101, 115, 115]) = false ∧ (a == [116, 105, 109, 101, 115]) = false ∧ (a == [98, 121]) = true ∧ f = quoF) ∨
    ((a == [97, 100, 100]) = false ∧ (a == [108, 101, 115, 115]) = false ∧ (a == [116, 105, 109, 101, 115]) = false ∧ (a == [98, 121]) = false ∧ (a == [109, 101, 101, 116]) = true ∧ f = comF) ∨
    ((a == [97, 100, 100]) = false ∧ (a == [108, 101, 115, 115]) = false ∧ (a == [116, 105, 109, 101, 115]) = false ∧ (a == [98, 121]) = false ∧ (a == [109, 101, 101, 116]) = false ∧ (a == [104, 117, 108, 108]) = true ∧ f = fun a b => .ok (bothF a b)) := by
  unfold opF at h
  by_cases h0 : a = wAdd
  · rw [if_pos h0] at h; injection h with h
    exact .inl ⟨beq_iff_eq.2 h0, h.symm⟩
  · rw [if_neg h0] at h
    have e0 : (a == [97, 100, 100]) = false := beq_eq_false_iff_ne.2 h0
    by_cases h1 : a = wLess
    · rw [if_pos h1] at h; injection h with h
      exact .inr (.inl ⟨e0, beq_iff_eq.2 h1, h.symm⟩)
    · rw [if_neg h1] at h
      have e1 : (a == [108, 101, 115, 115]) = false := beq_eq_false_iff_ne.2 h1
      by_cases h2 : a = wTimes
      · rw [if_pos h2] at h; injection h with h
        exact .inr (.inr (.inl ⟨e0, e1, beq_iff_eq.2 h2, h.symm⟩))
      · rw [if_neg h2] at h
        have e2 : (a == [116, 105, 109, 101, 115]) = false := beq_eq_false_iff_ne.2 h2
        by_cases h3 : a = wBy
        · rw [if_pos h3] at h; injection h with h
          exact .inr (.inr (.inr (.inl ⟨e0, e1, e2, beq_iff_eq.2 h3, h.symm⟩)))
        · rw [if_neg h3] at h
          have e3 : (a == [98, 121]) = false := beq_eq_false_iff_ne.2 h3
          by_cases h4 : a = wMeet
          · rw [if_pos h4] at h; injection h with h
            exact .inr (.inr (.inr (.inr (.inl ⟨e0, e1, e2, e3, beq_iff_eq.2 h4, h.symm⟩))))
          · rw [if_neg h4] at h
            have e4 : (a == [109, 101, 101, 116]) = false := beq_eq_false_iff_ne.2 h4
            by_cases h5 : a = wHull
            · rw [if_pos h5] at h; injection h with h
              exact .inr (.inr (.inr (.inr (.inr ⟨e0, e1, e2, e3, e4, beq_iff_eq.2 h5, h.symm⟩))))
            · rw [if_neg h5] at h; cases h
theorem op_not {a : List UInt8} (h : opF a = none) : (a == [97, 100, 100]) = false ∧ (a == [108, 101, 115, 115]) = false ∧ (a == [116, 105, 109, 101, 115]) = false ∧ (a == [98, 121]) = false ∧ (a == [109, 101, 101, 116]) = false ∧ (a == [104, 117, 108, 108]) = false := by
  unfold opF at h
  refine ⟨beq_eq_false_iff_ne.2 fun e => ?_, beq_eq_false_iff_ne.2 fun e => ?_, beq_eq_false_iff_ne.2 fun e => ?_, beq_eq_false_iff_ne.2 fun e => ?_, beq_eq_false_iff_ne.2 fun e => ?_, beq_eq_false_iff_ne.2 fun e => ?_⟩
  all_goals (subst e; exact absurd h (by decide))
theorem op_num {a : List UInt8} {f : Sp → Sp → Except Nat Sp} (h : opF a = some f) {x y : Sp} {n : Nat} (hn : f x y = .error n) : 0 < n ∧ n < 9 := by
  rcases op_six h with ⟨-, rfl⟩ | ⟨-, -, rfl⟩ | ⟨-, -, -, rfl⟩ | ⟨-, -, -, -, rfl⟩ | ⟨-, -, -, -, -, rfl⟩ | ⟨-, -, -, -, -, -, rfl⟩
  · have := sum_err hn; omega
  · have := rest_err hn; omega
  · have := prod_err hn; omega
  · have := quo_err hn; omega
  · have := com_err hn; omega
  · cases hn
theorem got_wide {r : Except Nat Sp} (h : ∀ p, r = .ok p → Wide p) : eO r = none → Wide (got r) := by
  intro he
  cases r with
  | error n => cases he
  | ok p => exact h p rfl
theorem eO_num {r : Except Nat Sp} (h : ∀ n, r = .error n → 0 < n ∧ n < 9) : ∀ n, eO r = some n → 0 < n ∧ n < 9 := by
  intro n he
  cases r with
  | error m => injection he with he; subst he; exact h _ rfl
  | ok p => cases he
end Go.Proofs.YtmjcnpolnknkkaaGreatDoor

set_option linter.unusedVariables false
set_option linter.unusedSimpArgs false
namespace Go.Proofs.YtmjcnpolnknkkaaGreatDoor
open Go.RowKit

theorem nums_len : ∀ {l : List (List UInt8)} {L : List Int}, numsF l = some L → L.length = l.length
  | [], L, h => by
    injection h with h
    subst h
    rfl
  | w :: r, L, h => by
    unfold numsF at h
    split at h
    · cases h
    · split at h
      · cases h
      · rename_i l hl
        injection h with h
        subst h
        simp [nums_len hl]
theorem rnums_len {s : List UInt8} {L : List Int} (h : rnumsF s = some L) : L.length ≤ s.length + 1 := by
  rw [nums_len h]
  exact (split_len 44 s).1
theorem pc_parts {p : List Int} (h : pcheckF p = none) : 0 < p.length ∧ p.length ≤ 5 ∧ ∀ n ∈ p, M n := by
  obtain ⟨h0, h5, hp, -⟩ := both_parts (p := p) (x := ⟨0, 0⟩) (by unfold pbothF; rw [h]; rfl)
  exact ⟨h0, h5, hp⟩
theorem pb_none {p : List Int} {x : Sp} (h : pcheckF p = none) (hx : Rt x) : pbothF p x = none := by
  unfold pbothF
  rw [h]
  exact checkF_none.2 hx
theorem pb_some {p : List Int} {x : Sp} {e : Nat} (h : pcheckF p = some e) : pbothF p x = some e := by
  unfold pbothF
  rw [h]
theorem pc_num {p : List Int} {e : Nat} (h : pcheckF p = some e) : 0 < e ∧ e < 9 := by
  have := pcheck_num h
  omega
def iterN (p : List Int) : Nat → Sp → Except Nat Sp
  | 0, x => .ok x
  | n + 1, x => match nearerF p x with
    | .error e => .error e
    | .ok s => iterN p n s
theorem iterN_same {p : List Int} {x : Sp} (h : nearerF p x = .ok x) : ∀ n, iterN p n x = .ok x
  | 0 => rfl
  | n + 1 => by unfold iterN; rw [h]; exact iterN_same h n
theorem nrun_iterN (p : List Int) : ∀ (n : Nat) (x : Sp), nrunG p n x = iterN p n x
  | 0, x => rfl
  | n + 1, x => by
    unfold nrunG iterN
    cases h : nearerF p x with
    | error e => rfl
    | ok s =>
      dsimp only
      split
      · rename_i e
        subst e
        exact (iterN_same h n).symm
      · exact nrun_iterN p n s
theorem near_num {p : List Int} {x : Sp} {e : Nat} (h : nearerF p x = .error e) : 0 < e ∧ e < 9 := by
  unfold nearerF at h
  split at h
  · rename_i h1; injection h with h; subst h; have := nested_err _ _ h1; omega
  · split at h
    · rename_i h1; injection h with h; subst h; have := steep_err h1; omega
    · split at h
      · rename_i h1; injection h with h; subst h; have := quo_err h1; omega
      · split at h
        · rename_i h1; injection h with h; subst h; have := rest_err h1; omega
        · have := com_err h; omega
/-- What a line of a polynomial and a span says. -/
theorem range_bad {b c : List UInt8} {p : List Int} {x : Sp} {e : Nat} (h1 : rnumsF b = some p) (h2 : spanF c = some x) (h : pcheckF p = some e) : ansF (overLF (fun p x => told2 (mrangeF p x)) b c) = nameF e := by
  unfold overLF aheadF
  rw [h1]
  dsimp only
  rw [h2]
  dsimp only
  unfold mrangeF
  rw [pb_some h]
  rfl
theorem range_good {b c : List UInt8} {p : List Int} {x : Sp} (h1 : rnumsF b = some p) (h2 : spanF c = some x) (h : pcheckF p = none) : ansF (overLF (fun p x => told2 (mrangeF p x)) b c) = tellF (got (overF p x)) (eO (overF p x)) := by
  unfold overLF aheadF
  rw [h1]
  dsimp only
  rw [h2]
  dsimp only
  unfold mrangeF
  rw [pb_none h (span_rt h2)]
  exact tell_ans _
theorem newton_bad {b c : List UInt8} {p : List Int} {x : Sp} {e : Nat} (h1 : rnumsF b = some p) (h2 : spanF c = some x) (h : pcheckF p = some e) : ansF (overLF (fun p x => told2 (nrunF p x 20)) b c) = nameF e := by
  unfold overLF aheadF
  rw [h1]
  dsimp only
  rw [h2]
  dsimp only
  unfold nrunF
  rw [if_neg (by omega), pb_some h]
  rfl
theorem newton_good {b c : List UInt8} {p : List Int} {x : Sp} (h1 : rnumsF b = some p) (h2 : spanF c = some x) (h : pcheckF p = none) : ansF (overLF (fun p x => told2 (nrunF p x 20)) b c) = ansF (told2 (iterN p 20 x)) := by
  unfold overLF aheadF
  rw [h1]
  dsimp only
  rw [h2]
  dsimp only
  unfold nrunF
  rw [if_neg (by omega), pb_none h (span_rt h2), ← nrun_iterN]
  rfl
theorem ahead_not {f : List Int → Sp → Except (Option Nat) (List UInt8)} {b c : List UInt8} (h : rnumsF b = none ∨ spanF c = none) : ansF (overLF f b c) = [98, 97, 100] := by
  unfold overLF aheadF
  rcases h with h | h
  · rw [h]; rfl
  · cases rnumsF b with
    | none => rfl
    | some p =>
      dsimp only
      rw [h]
      rfl
theorem roots_not {b c d : List UInt8} {p : List Int} {x : Sp} {e : Nat} (h1 : rnumsF b = some p) (h2 : spanF c = some x) (hd : parseF d = .error e) : ansF (overLF (fun p x => rootsF p x d) b c) = [98, 97, 100] := by
  unfold overLF aheadF
  rw [h1]
  dsimp only
  rw [h2]
  dsimp only
  unfold rootsF
  rw [hd]
  rfl
theorem roots_bad {b c d : List UInt8} {p : List Int} {x : Sp} {n : Int} {e : Nat} (h1 : rnumsF b = some p) (h2 : spanF c = some x) (hd : parseF d = .ok n) (h : pcheckF p = some e) : ansF (overLF (fun p x => rootsF p x d) b c) = nameF e := by
  unfold overLF aheadF
  rw [h1]
  dsimp only
  rw [h2]
  dsimp only
  unfold rootsF
  rw [hd]
  dsimp only
  unfold findF
  rw [pb_some h]
  rfl
theorem roots_low {b c d : List UInt8} {p : List Int} {x : Sp} {n : Int} (h1 : rnumsF b = some p) (h2 : spanF c = some x) (hd : parseF d = .ok n) (h : pcheckF p = none) (hn : n < 1) : ansF (overLF (fun p x => rootsF p x d) b c) = nameF 1 := by
  unfold overLF aheadF
  rw [h1]
  dsimp only
  rw [h2]
  dsimp only
  unfold rootsF
  rw [hd]
  dsimp only
  unfold findF
  rw [pb_none h (span_rt h2), if_pos (.inl hn)]
  rfl
theorem roots_good {b c d : List UInt8} {p : List Int} {x : Sp} {n : Int} (h1 : rnumsF b = some p) (h2 : spanF c = some x) (hd : parseF d = .ok n) (h : pcheckF p = none) (hn : 1 ≤ n) : ansF (overLF (fun p x => rootsF p x d) b c) = ansF (toldL (findG p n (x.hi - x.lo).toNat x [])) := by
  have hM : n ≤ 1000000000 := (parse_M hd).2
  unfold overLF aheadF
  rw [h1]
  dsimp only
  rw [h2]
  dsimp only
  unfold rootsF
  rw [hd]
  dsimp only
  unfold findF
  rw [pb_none h (span_rt h2), if_neg (by omega)]
  rfl
theorem fg_bd {p : List Int} {x : Sp} {n : Int} {o : List Sp} (hx : Rt x) (h : findG p n (x.hi - x.lo).toNat x [] = .ok o) : o.length ≤ 32 ∧ ∀ q ∈ o, Wide q := by
  obtain ⟨h1, h2⟩ := find_bd _ x [] o hx (by simp) (fun q hq => by cases hq) h
  exact ⟨h1, fun q hq => rt_wide (h2 q hq)⟩
theorem fg_num {p : List Int} {x : Sp} {n : Int} {e : Nat} (hn : 1 ≤ n) (h : findG p n (x.hi - x.lo).toNat x [] = .error e) : 0 < e ∧ e < 9 := by
  have := rfind_num hn _ x [] e (Nat.le_refl _) h
  omega
/-- Texts, one behind the other, a space between. -/
def glueF (l : List Sp) : List UInt8 := Lib.join (l.map stextF) [32]
theorem texts_glue {l : List Sp} (h : l ≠ []) : textsF l = glueF l := by
  unfold textsF
  rw [if_neg h]
  rfl
theorem join_snoc (y : List UInt8) : ∀ (l : List (List UInt8)), l ≠ [] → Lib.join (l ++ [y]) [32] = Lib.join l [32] ++ 32 :: y
  | [], h => absurd rfl h
  | [x], _ => by
    show Lib.join [x, y] [32] = _
    rw [Lib.join_one]
    simp [Lib.join, List.intercalate]
  | x :: z :: r, _ => by
    have ih := join_snoc y (z :: r) (by simp)
    have e1 : ∀ (t : List (List UInt8)) (u : List UInt8), Lib.join (x :: u :: t) [32] = x ++ 32 :: Lib.join (u :: t) [32] := fun t u => by simp [Lib.join, List.intercalate]
    show Lib.join (x :: z :: (r ++ [y])) [32] = _
    rw [e1, e1]
    show x ++ 32 :: Lib.join (z :: r ++ [y]) [32] = _
    rw [ih]
    simp
theorem glue_first {l : List Sp} {q : Sp} (h : 0 < l.length) (h0 : l[0]?.getD ⟨0, 0⟩ = q) : glueF (l.take 1) = stextF q := by
  cases l with
  | nil => simp at h
  | cons x r =>
    simp at h0
    subst h0
    unfold glueF
    simp [Lib.join_one]
theorem glue_next {l : List Sp} {q : Sp} {k : Nat} (hk : k < l.length) (h0 : 0 < k) (hq : l[k]?.getD ⟨0, 0⟩ = q) : glueF (l.take (k + 1)) = glueF (l.take k) ++ 32 :: stextF q := by
  unfold glueF
  rw [List.take_succ_eq_append_getElem hk, List.map_append]
  rw [List.getElem?_eq_getElem hk] at hq
  simp at hq
  rw [← hq]
  exact join_snoc _ _ (by
    intro e
    have := congrArg List.length e
    rw [List.length_map, List.length_take, List.length_nil] at this
    omega)
theorem glue_len {l : List Sp} (h : l.length ≤ 32) (hw : ∀ q ∈ l, Wide q) : (glueF l).length ≤ 2000 := by
  have h1 := join_len (l.map stextF) 61 (fun x hx => by
      obtain ⟨p, hp, rfl⟩ := List.mem_map.1 hx
      exact stext_len (hw p hp))
  rw [List.length_map] at h1
  unfold glueF
  omega
theorem glue_pos {l : List Sp} (h : l ≠ []) : 0 < (glueF l).length := by
  cases l with
  | nil => exact absurd rfl h
  | cons x r =>
    have h1 : 0 < (stextF x).length := by
      unfold stextF
      simp
      omega
    cases r with
    | nil => unfold glueF; simp only [List.map_cons, List.map_nil]; rw [Lib.join_one]; exact h1
    | cons y r =>
      unfold glueF
      simp only [List.map_cons]
      simp [Lib.join, List.intercalate]
      omega
end Go.Proofs.YtmjcnpolnknkkaaGreatDoor
