/- RunMeets: of two spans of which the first begins below the second, and ends in it, a session tells what they meet in, and both. -/
import Derived.Test.YtmjcnpolnknkkaaGreatDoorZ7
import Derived.Test.YtmjcnpolnknkkaaGreatDoorZ8
import Derived.Test.YtmjcnpolnknkkaaGreatDoorZ9
import Derived.Test.YtmjcnpolnknkkaaGreatDoorZE
import Derived.Test.YtmjcnpolnknkkaaGreatDoorPDoor
import Derived.JoinedCond
import Derived.Test.YtmjcnpolnknkkaaGreatDoorPRow
import Derived.ChangeMaps5
import Derived.BigGuard
import Derived.Deep.DeepCutAuto
set_option linter.unusedVariables false
set_option linter.unusedSimpArgs false
namespace Go.Proofs.YtmjcnpolnknkkaaGreatDoor
open Go.ChangeShapes Go.WideShapes Go.ChangeAt Go.RowKit Go.Joins Go.Deep

/-- What a number's text is made of. -/
theorem text_chars (n : Int) : ∀ x ∈ textF n, x = 45 ∨ x = 46 ∨ Dig x := by
  intro x hx
  obtain ⟨D, a, b, c, t⟩ := text_is n
  rw [t.eq] at hx
  rcases List.mem_append.1 hx with hx | hx
  · split at hx
    · simp only [List.mem_singleton] at hx; exact .inl hx
    · cases hx
  · rcases List.mem_append.1 hx with hx | hx
    · exact .inr (.inr (t.dig x hx))
    · simp only [List.mem_cons, List.not_mem_nil, or_false] at hx
      rcases hx with rfl | rfl | rfl | rfl
      · exact .inr (.inl rfl)
      · exact .inr (.inr t.da)
      · exact .inr (.inr t.db)
      · exact .inr (.inr t.dc)
theorem text_not (n : Int) (c : UInt8) (h1 : c ≠ 45) (h2 : c ≠ 46) (h3 : ¬ Dig c) : ∀ x ∈ textF n, x ≠ c := by
  intro x hx e
  subst e
  rcases text_chars n x hx with h | h | h
  · exact h1 h
  · exact h2 h
  · exact h3 h
theorem text_44 (n : Int) : ∀ x ∈ textF n, x ≠ 44 := text_not n 44 (by decide) (by decide) (fun h => by have := h.1; revert this; decide)
theorem text_32 (n : Int) : ∀ x ∈ textF n, x ≠ 32 := text_not n 32 (by decide) (by decide) (fun h => by have := h.1; revert this; decide)
theorem text_10 (n : Int) : ∀ x ∈ textF n, x ≠ 10 := text_not n 10 (by decide) (by decide) (fun h => by have := h.1; revert this; decide)
theorem stext_not (p : Sp) (c : UInt8) (h : ∀ n, ∀ x ∈ textF n, x ≠ c) (hc : c ≠ 44) : ∀ x ∈ stextF p, x ≠ c := by
  intro x hx
  unfold stextF at hx
  rcases List.mem_append.1 hx with hx | hx
  · exact h _ x hx
  · rcases List.mem_cons.1 hx with rfl | hx
    · exact fun e => hc e.symm
    · exact h _ x hx
theorem span_text {p : Sp} (h : Rt p) : spanF (stextF p) = some p := by
  have e1 : splitF 44 (stextF p) = [textF p.lo, textF p.hi] := by
    unfold stextF
    rw [splitF_yes _ (text_44 _), splitF_no (text_44 _)]
  have e2 : rnumsF (stextF p) = some [p.lo, p.hi] := by
    unfold rnumsF
    rw [e1]
    unfold numsF
    rw [parse_textF ⟨h.1.1, h.1.2⟩]
    dsimp only
    unfold numsF
    rw [parse_textF ⟨h.2.1.1, h.2.1.2⟩]
    rfl
  unfold spanF
  rw [e2]
  dsimp only
  rw [if_pos h.2.2]
theorem line_cut {a : List UInt8} (p q : Sp) (ha : ∀ x ∈ a, x ≠ 32) : splitF 32 (a ++ 32 :: (stextF p ++ 32 :: stextF q)) = [a, stextF p, stextF q] := by
  rw [splitF_yes _ ha, splitF_yes _ (stext_not p 32 text_32 (by decide)), splitF_no (stext_not q 32 text_32 (by decide))]
theorem answer_two {a : List UInt8} {p q : Sp} {f : Sp → Sp → Except Nat Sp} (ha : ∀ x ∈ a, x ≠ 32) (hf : opF a = some f) (hp : Rt p) (hq : Rt q) : answerF (a ++ 32 :: (stextF p ++ 32 :: stextF q)) = ansF (told2 (f p q)) := by
  rw [answer_ans]
  unfold lineF
  rw [line_cut p q ha]
  dsimp only
  unfold line3F
  rw [hf]
  dsimp only
  unfold two2F
  rw [span_text hp]
  dsimp only
  rw [span_text hq]
  dsimp only
  rw [two_of_rt hp hq]
def twoLines (p q : Sp) : List UInt8 := wMeet ++ 32 :: (stextF p ++ 32 :: (stextF q ++ 10 :: (wHull ++ 32 :: (stextF p ++ 32 :: (stextF q ++ [10])))))
theorem line_10 {a : List UInt8} (p q : Sp) (ha : ∀ x ∈ a, x ≠ 10) : ∀ x ∈ a ++ 32 :: (stextF p ++ 32 :: stextF q), x ≠ 10 := by
  intro x hx
  rcases List.mem_append.1 hx with hx | hx
  · exact ha x hx
  · rcases List.mem_cons.1 hx with rfl | hx
    · decide
    · rcases List.mem_append.1 hx with hx | hx
      · exact stext_not p 10 text_10 (by decide) x hx
      · rcases List.mem_cons.1 hx with rfl | hx
        · decide
        · exact stext_not q 10 text_10 (by decide) x hx
theorem two_said {a b c d : Int} (h0 : 0 ≤ a) (h1 : a ≤ b) (h2 : b ≤ c) (h3 : c ≤ d) (h4 : d ≤ 100000) : sessF (twoLines ⟨a, c⟩ ⟨b, d⟩) = (stextF ⟨b, c⟩ ++ [10]) ++ (stextF ⟨a, d⟩ ++ [10]) := by
  have hp : Rt ⟨a, c⟩ := ⟨⟨by dsimp only; omega, by dsimp only; omega⟩, ⟨by dsimp only; omega, by dsimp only; omega⟩, by dsimp only; omega⟩
  have hq : Rt ⟨b, d⟩ := ⟨⟨by dsimp only; omega, by dsimp only; omega⟩, ⟨by dsimp only; omega, by dsimp only; omega⟩, by dsimp only; omega⟩
  have e : twoLines ⟨a, c⟩ ⟨b, d⟩ = (wMeet ++ 32 :: (stextF ⟨a, c⟩ ++ 32 :: stextF ⟨b, d⟩)) ++ 10 :: ((wHull ++ 32 :: (stextF ⟨a, c⟩ ++ 32 :: stextF ⟨b, d⟩)) ++ 10 :: []) := by
    unfold twoLines
    simp
  rw [e, sess_yes _ (line_10 _ _ (by decide)), sess_yes _ (line_10 _ _ (by decide)), sess_nil, List.append_nil, answer_two (by decide) (by rfl : opF wMeet = some comF) hp hq, answer_two (by decide) (by rfl : opF wHull = some (fun a b => .ok (bothF a b))) hp hq]
  have c1 : comF ⟨a, c⟩ ⟨b, d⟩ = .ok ⟨b, c⟩ := by
    unfold comF
    dsimp only
    rw [show min c d = c by omega, show max a b = b by omega, if_neg (by omega)]
  have c2 : bothF ⟨a, c⟩ ⟨b, d⟩ = ⟨a, d⟩ := by
    unfold bothF
    dsimp only
    rw [show min a b = a by omega, show max c d = d by omega]
  rw [c1, c2]
  rfl
theorem bad_said : sessF [109, 101, 101, 116, 32, 48, 46, 48, 48, 48, 44, 49, 46, 48, 48, 48, 32, 49, 46, 48, 48, 48, 44, 48, 46, 48, 48, 48, 10] = [98, 97, 100, 10] := by kernel_rfl
set_option maxRecDepth 100000 in
set_option maxHeartbeats 8000000 in
theorem runMeets_walk (a b c d : Int) (w : World) (_h1 : I64 a) (_h2 : I64 b) (_h3 : I64 c) (_h4 : I64 d) (hd : DoorR w) :
    Calls Tryz.prog 6 #[.int .i64 a, .int .i64 b, .int .i64 c, .int .i64 d] w (LawEnd w) := by
  clear _h1 _h2 _h3 _h4
  by_cases hok : 0 ≤ a ∧ a ≤ b ∧ b ≤ c ∧ c ≤ d ∧ d ≤ 100000
  · obtain ⟨h0, h1, h2, h3, h4⟩ := hok
    have HS := hid (two_said h0 h1 h2 h3 h4)
    have d0 : decide (a < 0) = false := decide_eq_false (by omega)
    have d1 : decide (b < a) = false := decide_eq_false (by omega)
    have d2 : decide (c < b) = false := decide_eq_false (by omega)
    have d3 : decide (d < c) = false := decide_eq_false (by omega)
    have d4 : decide (100000 < d) = false := decide_eq_false (by omega)
    have W1 : Wide ⟨a, c⟩ := ⟨⟨by dsimp only; omega, by dsimp only; omega⟩, ⟨by dsimp only; omega, by dsimp only; omega⟩⟩
    have W2 : Wide ⟨b, d⟩ := ⟨⟨by dsimp only; omega, by dsimp only; omega⟩, ⟨by dsimp only; omega, by dsimp only; omega⟩⟩
    have W3 : Wide ⟨b, c⟩ := ⟨⟨by dsimp only; omega, by dsimp only; omega⟩, ⟨by dsimp only; omega, by dsimp only; omega⟩⟩
    have W4 : Wide ⟨a, d⟩ := ⟨⟨by dsimp only; omega, by dsimp only; omega⟩, ⟨by dsimp only; omega, by dsimp only; omega⟩⟩
    have L1 := stext_len W1; have L2 := stext_len W2; have L3 := stext_len W3; have L4 := stext_len W4
    have HX := hid (fun W => show Calls Tryz.prog 22 #[.agg #[.int .i64 a, .int .i64 c]] W (RetX strV (stextF ⟨a, c⟩) W) from rstext_any ⟨a, c⟩ W W1)
    have HY := hid (fun W => show Calls Tryz.prog 22 #[.agg #[.int .i64 b, .int .i64 d]] W (RetX strV (stextF ⟨b, d⟩) W) from rstext_any ⟨b, d⟩ W W2)
    have HM := hid (fun W => show Calls Tryz.prog 22 #[.agg #[.int .i64 b, .int .i64 c]] W (RetX strV (stextF ⟨b, c⟩) W) from rstext_any ⟨b, c⟩ W W3)
    have HH := hid (fun W => show Calls Tryz.prog 22 #[.agg #[.int .i64 a, .int .i64 d]] W (RetX strV (stextF ⟨a, d⟩) W) from rstext_any ⟨a, d⟩ W W4)
    unfold twoLines at HS
    have HL := hid (show (wMeet ++ 32 :: (stextF ⟨a, c⟩ ++ 32 :: (stextF ⟨b, d⟩ ++ 10 :: (wHull ++ 32 :: (stextF ⟨a, c⟩ ++ 32 :: (stextF ⟨b, d⟩ ++ [10])))))).length ≤ 3000 by simp [wMeet, wHull]; omega)
    generalize stextF ⟨a, c⟩ = X at *
    generalize stextF ⟨b, d⟩ = Y at *
    generalize stextF ⟨b, c⟩ = M at *
    generalize stextF ⟨a, d⟩ = H at *
    have hcat : ((⟨#[109, 101, 101, 116, 32]⟩ : ByteArray) ++ (⟨X.toArray⟩ : ByteArray) ++ (⟨#[32]⟩ : ByteArray) ++ (⟨Y.toArray⟩ : ByteArray) ++ (⟨#[10, 104, 117, 108, 108, 32]⟩ : ByteArray) ++ (⟨X.toArray⟩ : ByteArray) ++ (⟨#[32]⟩ : ByteArray) ++ (⟨Y.toArray⟩ : ByteArray) ++ (⟨#[10]⟩ : ByteArray)) = ⟨(wMeet ++ 32 :: (X ++ 32 :: (Y ++ 10 :: (wHull ++ 32 :: (X ++ 32 :: (Y ++ [10])))))).toArray⟩ := by
      apply ByteArray.ext
      simp [wMeet, wHull]
    have hcat2 : (⟨((M ++ [10]) ++ (H ++ [10])).toArray⟩ : ByteArray) = ((⟨M.toArray⟩ : ByteArray) ++ (⟨#[10]⟩ : ByteArray) ++ (⟨H.toArray⟩ : ByteArray) ++ (⟨#[10]⟩ : ByteArray)) := by
      apply ByteArray.ext
      simp
    have HR := hid (fun W (hW : DoorR W) => show Calls Tryz.prog 19 #[.string ((⟨#[109, 101, 101, 116, 32]⟩ : ByteArray) ++ (⟨X.toArray⟩ : ByteArray) ++ (⟨#[32]⟩ : ByteArray) ++ (⟨Y.toArray⟩ : ByteArray) ++ (⟨#[10, 104, 117, 108, 108, 32]⟩ : ByteArray) ++ (⟨X.toArray⟩ : ByteArray) ++ (⟨#[32]⟩ : ByteArray) ++ (⟨Y.toArray⟩ : ByteArray) ++ (⟨#[10]⟩ : ByteArray))] W (fun e w' => e = .returned (.string ((⟨M.toArray⟩ : ByteArray) ++ (⟨#[10]⟩ : ByteArray) ++ (⟨H.toArray⟩ : ByteArray) ++ (⟨#[10]⟩ : ByteArray))) ∧ Up W w') from by
      rw [hcat]
      refine (run_any _ W HL.out hW).mono ?_
      rintro e w' ⟨x, hx, he, hu⟩
      rw [HS.out] at hx
      subst hx
      exact ⟨by rw [he, ← hcat2]; rfl, hu⟩)
    have HD := hid hd
    clear h0 h1 h2 h3 h4 W1 W2 W3 W4 hd hcat hcat2
    go_enter Tryz.func6, Tryz.ntmps6
    go_wp2_with (first
                        | ((go_at_call 22; (with_reducible refine (HX.out _).mono ?_); rintro e w1 ⟨x1, rfl, rfl, hb1⟩) <;> (have hle := Up.le hb1; (try simp only [World.size_alloc, World.size_setCell, World.size_drew, World.heap_drewN] at hle); clear hle))
                        | ((go_at_call 22; (with_reducible refine (HY.out _).mono ?_); rintro e w2 ⟨x2, rfl, rfl, hb2⟩) <;> (have hle := Up.le hb2; (try simp only [World.size_alloc, World.size_setCell, World.size_drew, World.heap_drewN] at hle); clear hle))
                        | ((go_at_call 19; (with_reducible refine (HR.out _ (HD.out.up (by (repeat (first | (with_reducible exact Up.refl _) | (with_reducible assumption) | (with_reducible refine Up.alloc ?_ _) | (with_reducible refine Up.drew ?_) | ((with_reducible refine Up.set ?_ ?_ _); rotate_left; focus (first | omega | (simp; done) | (simp; omega))) | (with_reducible refine Up.drewN ?_ _) | (with_reducible refine Up.call ?_ (by with_reducible assumption))))))).mono ?_); rintro e w3 ⟨rfl, hb3⟩) <;> (have hle := Up.le hb3; (try simp only [World.size_alloc, World.size_setCell, World.size_drew, World.heap_drewN] at hle); clear hle))
                        | ((go_at_call 22; (with_reducible refine (HM.out _).mono ?_); rintro e w4 ⟨x4, rfl, rfl, hb4⟩) <;> (have hle := Up.le hb4; (try simp only [World.size_alloc, World.size_setCell, World.size_drew, World.heap_drewN] at hle); clear hle))
                        | ((go_at_call 22; (with_reducible refine (HH.out _).mono ?_); rintro e w5 ⟨x5, rfl, rfl, hb5⟩) <;> (have hle := Up.le hb5; (try simp only [World.size_alloc, World.size_setCell, World.size_drew, World.heap_drewN] at hle); clear hle)))
    go_ret
    exact LawEnd.mk (by first | rfl | (simp; done)) (by (repeat (first | (with_reducible exact Up.refl _) | (with_reducible assumption) | (with_reducible refine Up.alloc ?_ _) | (with_reducible refine Up.drew ?_) | ((with_reducible refine Up.set ?_ ?_ _); rotate_left; focus (first | omega | (simp; done) | (simp; omega))) | (with_reducible refine Up.drewN ?_ _) | (with_reducible refine Up.call ?_ (by with_reducible assumption)))))
  · have HB := hid (fun W (hW : DoorR W) => show Calls Tryz.prog 19 #[.string ⟨#[109, 101, 101, 116, 32, 48, 46, 48, 48, 48, 44, 49, 46, 48, 48, 48, 32, 49, 46, 48, 48, 48, 44, 48, 46, 48, 48, 48, 10]⟩] W (RetX strV [98, 97, 100, 10] W) from by
      have h := run_any [109, 101, 101, 116, 32, 48, 46, 48, 48, 48, 44, 49, 46, 48, 48, 48, 32, 49, 46, 48, 48, 48, 44, 48, 46, 48, 48, 48, 10] W (by decide) hW
      rw [bad_said] at h
      exact h)
    have HD := hid hd
    have hways : (decide (a < 0) = true) ∨ (decide (a < 0) = false ∧ decide (b < a) = true) ∨ (decide (a < 0) = false ∧ decide (b < a) = false ∧ decide (c < b) = true) ∨ (decide (a < 0) = false ∧ decide (b < a) = false ∧ decide (c < b) = false ∧ decide (d < c) = true) ∨ (decide (a < 0) = false ∧ decide (b < a) = false ∧ decide (c < b) = false ∧ decide (d < c) = false ∧ decide (100000 < d) = true) := by
      by_cases h0 : a < 0
      · exact .inl (decide_eq_true h0)
      · by_cases h1 : b < a
        · exact .inr (.inl ⟨decide_eq_false h0, decide_eq_true h1⟩)
        · by_cases h2 : c < b
          · exact .inr (.inr (.inl ⟨decide_eq_false h0, decide_eq_false h1, decide_eq_true h2⟩))
          · by_cases h3 : d < c
            · exact .inr (.inr (.inr (.inl ⟨decide_eq_false h0, decide_eq_false h1, decide_eq_false h2, decide_eq_true h3⟩)))
            · exact .inr (.inr (.inr (.inr ⟨decide_eq_false h0, decide_eq_false h1, decide_eq_false h2, decide_eq_false h3, decide_eq_true (by omega)⟩)))
    clear hok hd
    rcases hways with d0 | ⟨d0, d1⟩ | ⟨d0, d1, d2⟩ | ⟨d0, d1, d2, d3⟩ | ⟨d0, d1, d2, d3, d4⟩
    all_goals
      go_enter Tryz.func6, Tryz.ntmps6
      go_wp2_with (first
                        | ((go_at_call 19; (with_reducible refine (HB.out _ HD.out).mono ?_); rintro e w1 ⟨x1, rfl, rfl, hb1⟩) <;> (have hle := Up.le hb1; (try simp only [World.size_alloc, World.size_setCell, World.size_drew, World.heap_drewN] at hle); clear hle)))
      go_ret
      exact LawEnd.mk (by first | rfl | (simp; done)) (by (repeat (first | (with_reducible exact Up.refl _) | (with_reducible assumption) | (with_reducible refine Up.alloc ?_ _) | (with_reducible refine Up.drew ?_) | ((with_reducible refine Up.set ?_ ?_ _); rotate_left; focus (first | omega | (simp; done) | (simp; omega))) | (with_reducible refine Up.drewN ?_ _) | (with_reducible refine Up.call ?_ (by with_reducible assumption)))))
set_option maxRecDepth 100000 in
theorem runMeets_lifted (os : Os) (started : os.Started) (H : Type) (enc : TypeId × Value → H) :
    ReturnsInHanded {} Tryz.checked os 6 .any (fun w args => (Rows.runMeetsSpec.pre enc Tryz.prog Tryz.f6 [] false w args ∧ laidMetH Tryz.prog laidR9 w) ∧ sizedMet enc Tryz.prog Tryz.f6 (OpenSpec.ofChange Rows.runMeetsSpec) false w args) (Rows.runMeetsSpec.post enc Tryz.prog Tryz.f6 false true false false) := by
  refine returnsInHanded_of_change_and (C := Tryz.checked) (X := fun w _ => laidMetH Tryz.prog laidR9 w) (fun _ _ _ hh h => h.of_heap hh) Tryz.own started (by kernel_rfl) Tryz.func6
    (ChangeSpec.witness_at (enc := enc) (C := Tryz.checked) (os := os) (X := fun w _ => laidMetH Tryz.prog laidR9 w) false (laidWorldR os) #[.int .i64 0, .int .i64 0, .int .i64 0, .int .i64 0] 8 rfl (by kernel_rfl) (by kernel_rfl) (by kernel_rfl) (by kernel_rfl) (by kernel_rfl) (laidWorldR_met os _)) ?_
  intro W base args ds gs before hval0 hW _ _ hL _
  have hdoor := doorR_of_laid hL
  have hval : ∀ (j : Nat) t v, Tryz.f6.params[j]? = some t → args[j]? = some v → Value.okWide Tryz.prog W .any base t v := hval0
  have hW' := hW
  obtain ⟨p, q, hA0, hV, rfl, hfz, hnd⟩ := hW
  have hA : DataW.TrodAll enc Tryz.prog W 0 (fun _ => true) true Tryz.f6.params.toList args.toList ds p := hA0
  rw [Tryz.params6] at hA hval
  obtain ⟨v0, v1, v2, v3, d0, d1, d2, d3, p0, p1, p2, p3, rfl, rfl, rfl, h0, h1, h2, h3⟩ := trodAll_four hA
  obtain ⟨rfl, rfl⟩ := trodVars_none hV
  obtain ⟨n0, rfl, w0⟩ := open_i64 Tryz.underlying3 (hval 0 3 _ rfl rfl) h0
  obtain ⟨n1, rfl, w1⟩ := open_i64 Tryz.underlying3 (hval 1 3 _ rfl rfl) h1
  obtain ⟨n2, rfl, w2⟩ := open_i64 Tryz.underlying3 (hval 2 3 _ rfl rfl) h2
  obtain ⟨n3, rfl, w3⟩ := open_i64 Tryz.underlying3 (hval 3 3 _ rfl rfl) h3
  clear hA0 hval0
  refine (runMeets_walk n0 n1 n2 n3 W w0 w1 w2 w3 hdoor).mono fun e W' ⟨he, hu⟩ => ?_
  subst he
  exact ⟨_, rfl, law_post Tryz.laidOut rfl rfl Tryz.underlying4 (fun t ht => by simp [Tryz.params6] at ht; (try rcases ht with rfl); all_goals (first | (subst ht; exact ⟨by kernel_rfl, of_decide_eq_true (by kernel_rfl)⟩) | exact ⟨by kernel_rfl, of_decide_eq_true (by kernel_rfl)⟩)) hW' rfl rfl rfl hu⟩
theorem runMeets_k1 : (Rows.runMeetsRow.inPlace == Tryz.pinned.checked.prog.inPlace 6) = true := by kernel_rfl
theorem runMeets_k2 : (Rows.runMeetsRow.unfollowed == Tryz.pinned.checked.prog.unfollowed 6) = true := by kernel_rfl
theorem runMeets_k3 : (Rows.runMeetsRow.recurses == Tryz.pinned.checked.prog.recurses 6) = true := by kernel_rfl
theorem runMeets_k4 : (Rows.runMeetsRow.named == Tryz.pinned.checked.prog.varsNamed 6) = true := by kernel_rfl
theorem runMeets_facts : joinedFacts Tryz.pinned.checked.prog 6 Tryz.f6 Rows.runMeetsSpec Rows.runMeetsRow = true :=
  joined_of _ _ _ _ _ Tryz.g1 Tryz.g2 Tryz.g3 Tryz.g4 Tryz.g5 Tryz.g6 Tryz.g7 Tryz.g8 Tryz.g9 runMeets_k1 runMeets_k2 runMeets_k3 runMeets_k4 (by kernel_rfl)
theorem runMeets_bare : Rows.RunMeetsSaid :=
  OpenClaim.holds_of_wide 6 Tryz.f6 rfl rfl rfl rfl rfl rfl rfl ⟨rfl, rfl, rfl, rfl, rfl⟩ rfl rfl rfl rfl rfl (by kernel_rfl) Tryz.func6 runMeets_facts
    (of_decide_eq_true (by kernel_rfl)) (by unfold Func.isWrapper; rw [if_neg (by decide +kernel)]; exact ⟨rfl, rfl⟩)
    (fun os started H enc _ => runMeets_lifted os started H enc)
theorem runMeets_holds : Rows.RunMeetsCardSaid :=
  Claim7.holds_tied_plain_at .later [] [.data, .data, .data, .data, .handle, .sentinel, .sentinel, .wider, .pinned] true (true, "7541a4b10e5a870dcee6297c57c84f3c6ed26500fe45205808b4d9de7145fdb0") true runMeets_bare (fun _ h => by cases h) (by kernel_rfl) (fun _ h => by cases h) runMeets_row_tie rfl ⟨rfl, rfl⟩ door_main rfl
    (fun f fn hf hfn => by
      obtain rfl : f = 6 := Option.some.inj ((show Tryz.prog.funcNamed "spanmeadow/spanlaw3.RunMeets" = some 6 by kernel_rfl).symm.trans hf) |>.symm
      obtain rfl : fn = Tryz.f6 := (Option.some.inj (Tryz.func6.symm.trans hfn)).symm
      exact ⟨door_looks.symm, fun j t ht => by
        rw [Tryz.params6] at ht
        have hm : t ∈ [3] := by
          have := Array.mem_of_getElem? ht
          simpa using this
        simp only [List.mem_cons, List.not_mem_nil, or_false] at hm
        rcases hm with rfl
        · exact (show Tryz.prog.wantsStandIn 3 = false by kernel_rfl)⟩)
    (by kernel_rfl)
#print axioms runMeets_holds
end Go.Proofs.YtmjcnpolnknkkaaGreatDoor
