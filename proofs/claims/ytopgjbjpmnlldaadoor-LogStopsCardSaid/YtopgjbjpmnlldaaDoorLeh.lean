/- LogStops: when the log has stopped it has stopped. -/
import Derived.Test.YtopgjbjpmnlldaaDoorLoge
import Derived.Test.YtopgjbjpmnlldaaDoorSerr

set_option linter.unusedVariables false
set_option linter.unusedSimpArgs false
namespace Go.Proofs.YtopgjbjpmnlldaaDoor
open Go.ChangeShapes Go.WideShapes Go.ChangeAt Go.RowKit Go.Joins Go.Deep

/-- The log behind so many steps; it stops at the step 'after'. -/
structure StopP (after i n : Nat) (l : Lg) : Prop where
  sides : l.sides = 1
  few : l.all.length ≤ n
  goes : i ≤ after → l.stopped = false ∧ l.left = (after : Int) - (i : Int)
  stops : after < i → l.stopped = true
theorem seven_ok : bcheckF [(⟨-7, 7⟩ : Sp)] = none := by decide
theorem three_ok : bcheckF [(⟨3, 4⟩ : Sp)] = none := by decide
theorem StopP.nil {after i n : Nat} {l : Lg} (h : StopP after i n l) (hn : n < 20) : putF l [] = (if i ≤ after then some 5 else some 6, l) := by
  have hf := h.few
  by_cases hi : i ≤ after
  · rw [if_pos hi]
    unfold putF
    rw [(h.goes hi).1, if_neg (by simp), if_neg (by omega)]
    rfl
  · rw [if_neg hi]
    unfold putF
    rw [h.stops (by omega), if_pos rfl]
theorem StopP.put {after i n : Nat} {l : Lg} (h : StopP after i n l) (hn : n < 20) : ∃ r l', putF l [⟨-7, 7⟩] = (r, l') ∧ StopP after (i + 1) (n + 1) l' ∧ (i < after → r = none) ∧ (after ≤ i → r = some 6) := by
  have hf := h.few
  refine ⟨(putF l [⟨-7, 7⟩]).1, (putF l [⟨-7, 7⟩]).2, rfl, ?_⟩
  rcases put_cases l [⟨-7, 7⟩] with ⟨hs, e⟩ | ⟨hs, h2, e⟩ | ⟨hs, h2, ⟨n, hc, e⟩ | ⟨hc, ⟨hn, e⟩ | ⟨hn, ⟨h0, e⟩ | ⟨h0, e⟩⟩⟩⟩
  · have hi : after < i := by
      rcases Nat.lt_or_ge after i with h1 | h1
      · exact h1
      · rw [(h.goes h1).1] at hs; cases hs
    rw [e]
    exact ⟨⟨h.sides, by show l.all.length ≤ _; omega, fun _ => by omega, fun _ => hs⟩, fun _ => by omega, fun _ => rfl⟩
  · omega
  · rw [seven_ok] at hc; cases hc
  · rw [h.sides] at hn; exact absurd rfl hn
  · rw [e]
    have hi : i ≤ after := by
      rcases Nat.lt_or_ge after i with h1 | h1
      · rw [h.stops h1] at hs; cases hs
      · exact h1
    have h1 := (h.goes hi).2
    rw [h0] at h1
    exact ⟨⟨h.sides, by show l.all.length ≤ _; omega, fun _ => by omega, fun _ => by show (l.left == 0) = true; simp [h0]⟩, fun _ => by omega, fun _ => rfl⟩
  · rw [e]
    have hi : i ≤ after := by
      rcases Nat.lt_or_ge after i with h1 | h1
      · rw [h.stops h1] at hs; cases hs
      · exact h1
    have h1 := (h.goes hi).2
    refine ⟨⟨h.sides, by simp; omega, fun _ => ⟨by show (l.left == 0) = false; simpa using h0, by show max (-1) (l.left - 1) = _; omega⟩, fun _ => by omega⟩, fun _ => rfl, fun _ => by omega⟩
theorem StopP.sync {after i n : Nat} {l : Lg} (h : StopP after i n l) (hi : i ≤ after) : ∃ r l', syncF l = (r, l') ∧ StopP after (i + 1) n l' ∧ (i < after → r = none) ∧ (i = after → r = some 6) := by
  obtain ⟨h1, h2⟩ := h.goes hi
  have hf := h.few
  refine ⟨(syncF l).1, (syncF l).2, rfl, ?_⟩
  unfold syncF
  rw [h1, if_neg (by simp)]
  by_cases h0 : l.left = 0
  · rw [if_pos h0]
    exact ⟨⟨h.sides, hf, fun _ => by omega, fun _ => by show (l.left == 0) = true; simp [h0]⟩, fun _ => by omega, fun _ => rfl⟩
  · rw [if_neg h0]
    exact ⟨⟨h.sides, hf, fun _ => ⟨by show (l.left == 0) = false; simpa using h0, by show max (-1) (l.left - 1) = _; omega⟩, fun _ => by omega⟩, fun _ => rfl, fun _ => by omega⟩
theorem StopP.over {after i n : Nat} {l : Lg} (h : StopP after i n l) (hi : after < i) (b : List Sp) : syncF l = (some 6, l) ∧ putF l b = (some 6, l) := by
  constructor
  · unfold syncF; rw [if_pos (h.stops hi)]
  · unfold putF; rw [if_pos (h.stops hi)]
/-- Behind the crash all goes on. -/
theorem after_crash {l : Lg} (hs : l.sides = 1) (hf : l.all.length ≤ 15) (keep : Int) : ∃ l2 l3, putF (crashF l keep) [⟨3, 4⟩] = (none, l2) ∧ syncF l2 = (none, l3) ∧ l2.all = (crashF l keep).all ++ [[⟨3, 4⟩]] ∧ l3.all = l2.all ∧ l3.safe = l3.text.length ∧ (crashF l keep).all.length ≤ 15 := by
  have h1 : (crashF l keep).all.length ≤ 15 := by simp [crashF]; omega
  obtain ⟨L2, hL2⟩ : ∃ L2 : Lg, L2 = { stepF (crashF l keep) with recs := (crashF l keep).recs ++ [recN [⟨3, 4⟩]], all := (crashF l keep).all ++ [[⟨3, 4⟩]] } := ⟨_, rfl⟩
  have e : putF (crashF l keep) [⟨3, 4⟩] = (none, L2) := by
    rw [hL2]
    unfold putF
    rw [if_neg (by simp [crashF]), if_neg (by omega), three_ok]
    dsimp only
    rw [if_neg (by simp [crashF, hs]), if_neg (by simp [crashF])]
  have hst : L2.stopped = false := by rw [hL2]; rfl
  have hlf : L2.left = -1 := by rw [hL2]; rfl
  have e2 : syncF L2 = (none, { stepF L2 with safe := L2.text.length }) := by
    unfold syncF
    rw [if_neg (by rw [hst]; simp), if_neg (by rw [hlf]; decide)]
  exact ⟨L2, _, e, e2, by rw [hL2], rfl, rfl, h1⟩
theorem one_at {w : World} {A : Option Addr} {s : Sp} (h : RdS w A [s]) : ∃ b o, A = some ⟨b, o, none⟩ ∧ b < w.heap.size ∧ w.cell? ⟨b, o, none⟩ = some (.int .i64 s.lo) ∧ w.cell? ⟨b, o + 1, none⟩ = some (.int .i64 s.hi) := by
  obtain ⟨b, o, e, hb, hc⟩ := h.at (by simp)
  exact ⟨b, o, e, hb, (hc 0 (by simp)).1, (hc 0 (by simp)).2⟩
/-- The last of all boxes, where it lies. -/
theorem last_box {W : World} {A : Option Addr} {X : List (List Sp)} {s : Sp} (h : RdR RdS W A (X ++ [[s]])) : ∃ b o A' c', A = some ⟨b, o, none⟩ ∧ b < W.heap.size ∧ W.cell? ⟨b, o + X.length, none⟩ = some (.slice A' 1 c') ∧ RdS W A' [s] := by
  obtain ⟨b, o, e, hb, hc⟩ := h.at (by simp)
  obtain ⟨A', c', q1, -, q3⟩ := hc X.length (by simp)
  rw [last_at rfl] at q1 q3
  exact ⟨b, o, A', c', e, hb, q1, q3⟩

set_option maxRecDepth 100000 in
set_option maxHeartbeats 4000000 in
theorem logStops_walk (a m k : Int) (w : World) (_h1 : I64 a) (_h2 : I64 m) (hk : I64 k) (hd : Door4 w) : Calls Tryd.prog 5 #[.int .i64 a, .int .i64 m, .int .i64 k] w (LawEnd w) := by
  clear _h1 _h2
  have HD := hid hd.1; have HP := hid hd.2; have HK := hid hk
  have HNW := hid (fun W => new_good 1 W (by omega) (by omega))
  clear hd hk
  have hor : (decide (a < 0) = true) ∨ (decide (a < 0) = false ∧ decide (15 < a) = true) ∨ (decide (a < 0) = false ∧ decide (15 < a) = false ∧ decide (m < 0) = true) ∨ (decide (a < 0) = false ∧ decide (15 < a) = false ∧ decide (m < 0) = false ∧ decide (15 < m) = true) ∨ (decide (a < 0) = false ∧ decide (15 < a) = false ∧ decide (m < 0) = false ∧ decide (15 < m) = false) := by
    by_cases q1 : a < 0 <;> by_cases q2 : 15 < a <;> by_cases q3 : m < 0 <;> by_cases q4 : 15 < m <;> simp only [q1, q2, q3, q4, decide_true, decide_false] <;> simp
  rcases hor with d1 | ⟨d1, d2⟩ | ⟨d1, d2, d3⟩ | ⟨d1, d2, d3, d4⟩ | ⟨d1, d2, d3, d4⟩
  rotate_left 4
  · have q1 : ¬ (a < 0) := by simpa using d1
    have q2 : ¬ (15 < a) := by simpa using d2
    have q3 : ¬ (m < 0) := by simpa using d3
    have q4 : ¬ (15 < m) := by simpa using d4
    obtain ⟨a, rfl⟩ : ∃ n : Nat, a = n := ⟨a.toNat, by omega⟩
    obtain ⟨m, rfl⟩ : ∃ n : Nat, m = n := ⟨m.toNat, by omega⟩
    have Ha := hid (show a ≤ 15 by omega); have Hm := hid (show m ≤ 15 by omega); have HA := hid (show I64 (a : Int) from ⟨by omega, by omega⟩)
    clear q1 q2 q3 q4
    go_enter Tryd.func5, Tryd.ntmps5
    go_wp2_with (first
                        | ((go_at_call 12; (with_reducible refine (HNW.out _).mono ?_); rintro e w1 ⟨rfl, hl1, hb1⟩ <;> (have lw1 := hl1.lt; have HL1 := hid (LgB.mk (w := w) (B := w1.heap.size) (x := [⟨-7, 7⟩]) (l := newF 1) (v := .slice none 0 0) (g := w.heap.size) (W := w1.alloc (Obj.cells #[Value.int IntKind.i64 (-7), Value.int IntKind.i64 7] 23)) (hl1.up (by (repeat (first | (with_reducible exact Up.refl _) | (with_reducible assumption) | (with_reducible refine Up.alloc ?_ _) | (with_reducible refine Up.drew ?_) | ((with_reducible refine Up.set ?_ ?_ _); rotate_left; focus (first | omega | (simp; done) | (simp; omega))) | (with_reducible refine Up.drewN ?_ _) | (with_reducible refine Up.call ?_ (by with_reducible assumption)))))) (fun e => by cases e) (by omega) (by simp) (rds1 (by go_simp) (by go_simp)) (by (repeat (first | (with_reducible exact Up.refl _) | (with_reducible assumption) | (with_reducible refine Up.alloc ?_ _) | (with_reducible refine Up.drew ?_) | ((with_reducible refine Up.set ?_ ?_ _); rotate_left; focus (first | omega | (simp; done) | (simp; omega))) | (with_reducible refine Up.drewN ?_ _) | (with_reducible refine Up.call ?_ (by with_reducible assumption))))) (Nat.le_refl _)); clear hl1)) <;> (have hle := Up.le hb1; (try simp only [World.size_alloc, World.size_setCell, World.size_drew, World.heap_drewN] at hle); clear hle))
                        | ((go_at_call 17; (with_reducible refine (fail_B (a : Int) HL1.out HA.out).mono ?_); rintro e w2 ⟨v2, rfl, hL2⟩ <;> (have hb2 := hL2.since; have HL2 := hid hL2; clear hL2)) <;> (have hle := Up.le hb2; (try simp only [World.size_alloc, World.size_setCell, World.size_drew, World.heap_drewN] at hle); clear hle)))
    have h0 : StopP a 0 0 (failF (newF 1) (a : Int)) := ⟨rfl, by simp [failF, newF], fun _ => ⟨rfl, by simp [failF]; omega⟩, fun h => by omega⟩
    have H0 := hid h0
    clear h0
    go_loopw [10, 11, 12, 13, 14, 15, 16] (fun st i _ _ _ _ _ wr => ∃ (j : Nat) (v : Value) (l : Lg), j ≤ m ∧ st = .int .i64 j ∧ i = .int .i64 j ∧ Hid (LgB w wr w.heap.size w1.heap.size v l [⟨-7, 7⟩]) ∧ Hid (StopP a j j l) ∧ Up w wr) (fun _ i _ _ _ _ _ _ => m - (intOf i).toNat)
    case atStart => exact ⟨0, _, _, by omega, rfl, rfl, HL2.out, H0.out, hb2⟩
    case round =>
      obtain ⟨j, v, l, hj, rfl, rfl, HL, HS, hU⟩ := hrel
      have hle := hU.le
      have h15 := Hm.out
      have h15a := Ha.out
      by_cases hlt : j < m
      · have hkm : (j : Int) < (m : Int) := by omega
        have hdk : decide ((j : Int) < (m : Int)) = true := by simp; omega
        have hk9 : (j : Int) < 15 := by omega
        have hk0 : (0 : Int) ≤ (j : Int) := by omega
        have Hlt := hid hlt
        obtain ⟨r, l2, hp, hs2, hr1, hr2⟩ := HS.out.put (by omega)
        have hn := HS.out.nil (by omega)
        have HS2 := hid hs2
        rcases Nat.lt_trichotomy j a with hc | hc | hc
        · have d1 : decide ((a : Int) < (j : Int)) = false := decide_eq_false (by omega)
          have d2 : decide ((j : Int) ≤ (a : Int)) = true := decide_eq_true (by omega)
          have d3 : ((j : Int) == (a : Int)) = false := beq_eq_false_iff_ne.2 (by omega)
          have d4 : decide ((j : Int) < (a : Int)) = true := decide_eq_true (by omega)
          have n1 : ¬ a < j := by omega
          have n2 : j ≤ a := by omega
          have n3 : ¬ j = a := by omega
          have n4 : j < a := by omega
          obtain rfl := hr1 hc
          rw [if_pos (by omega)] at hn
          have Hn := hid hn; have Hp := hid hp
          clear hn hp hs2 hr1 hr2 hlt hc
          go_wp2_with (first
                        | ((go_at_call 13; (with_reducible refine (putNil_B (HL.out.up (by (repeat (first | (with_reducible exact Up.refl _) | (with_reducible assumption) | (with_reducible refine Up.alloc ?_ _) | (with_reducible refine Up.drew ?_) | ((with_reducible refine Up.set ?_ ?_ _); rotate_left; focus (first | omega | (simp; done) | (simp; omega))) | (with_reducible refine Up.drewN ?_ _) | (with_reducible refine Up.call ?_ (by with_reducible assumption)))))) Hn.out HP.out).mono ?_); rintro e w3 ⟨v3, rfl, hL3⟩ <;> (have hb3 := hL3.since; have HL3 := hid hL3; clear hL3)) <;> (have hle := Up.le hb3; (try simp only [World.size_alloc, World.size_setCell, World.size_drew, World.heap_drewN] at hle); clear hle))
                        | ((go_at_call 13; (with_reducible refine (putX_B (HL3.out.up (by (repeat (first | (with_reducible exact Up.refl _) | (with_reducible assumption) | (with_reducible refine Up.alloc ?_ _) | (with_reducible refine Up.drew ?_) | ((with_reducible refine Up.set ?_ ?_ _); rotate_left; focus (first | omega | (simp; done) | (simp; omega))) | (with_reducible refine Up.drewN ?_ _) | (with_reducible refine Up.call ?_ (by with_reducible assumption)))))) Hp.out HP.out).mono ?_); rintro e w4 ⟨v4, rfl, hL4⟩ <;> (have hb4 := hL4.since; have HL4 := hid hL4; clear hL4)) <;> (have hle := Up.le hb4; (try simp only [World.size_alloc, World.size_setCell, World.size_drew, World.heap_drewN] at hle); clear hle))
                        | ((go_at_call 10; (with_reducible refine (serr_some 5 6 _ (HD.out.up (by (repeat (first | (with_reducible exact Up.refl _) | (with_reducible assumption) | (with_reducible refine Up.alloc ?_ _) | (with_reducible refine Up.drew ?_) | ((with_reducible refine Up.set ?_ ?_ _); rotate_left; focus (first | omega | (simp; done) | (simp; omega))) | (with_reducible refine Up.drewN ?_ _) | (with_reducible refine Up.call ?_ (by with_reducible assumption))))))).mono ?_); rintro e w5 ⟨rfl, hb5⟩) <;> (have hle := Up.le hb5; (try simp only [World.size_alloc, World.size_setCell, World.size_drew, World.heap_drewN] at hle); clear hle))
                        | ((go_at_call 10; (with_reducible refine (serr_some 5 5 _ (HD.out.up (by (repeat (first | (with_reducible exact Up.refl _) | (with_reducible assumption) | (with_reducible refine Up.alloc ?_ _) | (with_reducible refine Up.drew ?_) | ((with_reducible refine Up.set ?_ ?_ _); rotate_left; focus (first | omega | (simp; done) | (simp; omega))) | (with_reducible refine Up.drewN ?_ _) | (with_reducible refine Up.call ?_ (by with_reducible assumption))))))).mono ?_); rintro e w6 ⟨rfl, hb6⟩) <;> (have hle := Up.le hb6; (try simp only [World.size_alloc, World.size_setCell, World.size_drew, World.heap_drewN] at hle); clear hle))
                        | ((go_at_call 10; (with_reducible refine (serr_nil 6 _ (HD.out.up (by (repeat (first | (with_reducible exact Up.refl _) | (with_reducible assumption) | (with_reducible refine Up.alloc ?_ _) | (with_reducible refine Up.drew ?_) | ((with_reducible refine Up.set ?_ ?_ _); rotate_left; focus (first | omega | (simp; done) | (simp; omega))) | (with_reducible refine Up.drewN ?_ _) | (with_reducible refine Up.call ?_ (by with_reducible assumption))))))).mono ?_); rintro e w7 ⟨rfl, hb7⟩) <;> (have hle := Up.le hb7; (try simp only [World.size_alloc, World.size_setCell, World.size_drew, World.heap_drewN] at hle); clear hle)))
          go_roundw
          case rel => exact ⟨j + 1, v4, l2, by have := Hlt.out; omega, by go_num, by go_num, HL4.out.up (by (repeat (first | (with_reducible exact Up.refl _) | (with_reducible assumption) | (with_reducible refine Up.alloc ?_ _) | (with_reducible refine Up.drew ?_) | ((with_reducible refine Up.set ?_ ?_ _); rotate_left; focus (first | omega | (simp; done) | (simp; omega))) | (with_reducible refine Up.drewN ?_ _) | (with_reducible refine Up.call ?_ (by with_reducible assumption))))), HS2.out, by (repeat (first | (with_reducible exact Up.refl _) | (with_reducible assumption) | (with_reducible refine Up.alloc ?_ _) | (with_reducible refine Up.drew ?_) | ((with_reducible refine Up.set ?_ ?_ _); rotate_left; focus (first | omega | (simp; done) | (simp; omega))) | (with_reducible refine Up.drewN ?_ _) | (with_reducible refine Up.call ?_ (by with_reducible assumption))))⟩
          case measure => have := Hlt.out; simp [intOf]; omega
        · have d1 : decide ((a : Int) < (j : Int)) = false := decide_eq_false (by omega)
          have d2 : decide ((j : Int) ≤ (a : Int)) = true := decide_eq_true (by omega)
          have d3 : ((j : Int) == (a : Int)) = true := beq_iff_eq.2 (by omega)
          have d4 : decide ((j : Int) < (a : Int)) = false := decide_eq_false (by omega)
          have n1 : ¬ a < j := by omega
          have n2 : j ≤ a := by omega
          have n3 : j = a := by omega
          have n4 : ¬ j < a := by omega
          obtain rfl := hr2 (by omega)
          rw [if_pos (by omega)] at hn
          have Hn := hid hn; have Hp := hid hp
          clear hn hp hs2 hr1 hr2 hlt hc
          go_wp2_with (first
                        | ((go_at_call 13; (with_reducible refine (putNil_B (HL.out.up (by (repeat (first | (with_reducible exact Up.refl _) | (with_reducible assumption) | (with_reducible refine Up.alloc ?_ _) | (with_reducible refine Up.drew ?_) | ((with_reducible refine Up.set ?_ ?_ _); rotate_left; focus (first | omega | (simp; done) | (simp; omega))) | (with_reducible refine Up.drewN ?_ _) | (with_reducible refine Up.call ?_ (by with_reducible assumption)))))) Hn.out HP.out).mono ?_); rintro e w3 ⟨v3, rfl, hL3⟩ <;> (have hb3 := hL3.since; have HL3 := hid hL3; clear hL3)) <;> (have hle := Up.le hb3; (try simp only [World.size_alloc, World.size_setCell, World.size_drew, World.heap_drewN] at hle); clear hle))
                        | ((go_at_call 13; (with_reducible refine (putX_B (HL3.out.up (by (repeat (first | (with_reducible exact Up.refl _) | (with_reducible assumption) | (with_reducible refine Up.alloc ?_ _) | (with_reducible refine Up.drew ?_) | ((with_reducible refine Up.set ?_ ?_ _); rotate_left; focus (first | omega | (simp; done) | (simp; omega))) | (with_reducible refine Up.drewN ?_ _) | (with_reducible refine Up.call ?_ (by with_reducible assumption)))))) Hp.out HP.out).mono ?_); rintro e w4 ⟨v4, rfl, hL4⟩ <;> (have hb4 := hL4.since; have HL4 := hid hL4; clear hL4)) <;> (have hle := Up.le hb4; (try simp only [World.size_alloc, World.size_setCell, World.size_drew, World.heap_drewN] at hle); clear hle))
                        | ((go_at_call 10; (with_reducible refine (serr_some 5 6 _ (HD.out.up (by (repeat (first | (with_reducible exact Up.refl _) | (with_reducible assumption) | (with_reducible refine Up.alloc ?_ _) | (with_reducible refine Up.drew ?_) | ((with_reducible refine Up.set ?_ ?_ _); rotate_left; focus (first | omega | (simp; done) | (simp; omega))) | (with_reducible refine Up.drewN ?_ _) | (with_reducible refine Up.call ?_ (by with_reducible assumption))))))).mono ?_); rintro e w5 ⟨rfl, hb5⟩) <;> (have hle := Up.le hb5; (try simp only [World.size_alloc, World.size_setCell, World.size_drew, World.heap_drewN] at hle); clear hle))
                        | ((go_at_call 10; (with_reducible refine (serr_some 5 5 _ (HD.out.up (by (repeat (first | (with_reducible exact Up.refl _) | (with_reducible assumption) | (with_reducible refine Up.alloc ?_ _) | (with_reducible refine Up.drew ?_) | ((with_reducible refine Up.set ?_ ?_ _); rotate_left; focus (first | omega | (simp; done) | (simp; omega))) | (with_reducible refine Up.drewN ?_ _) | (with_reducible refine Up.call ?_ (by with_reducible assumption))))))).mono ?_); rintro e w6 ⟨rfl, hb6⟩) <;> (have hle := Up.le hb6; (try simp only [World.size_alloc, World.size_setCell, World.size_drew, World.heap_drewN] at hle); clear hle))
                        | ((go_at_call 10; (with_reducible refine (serr_some 6 6 _ (HD.out.up (by (repeat (first | (with_reducible exact Up.refl _) | (with_reducible assumption) | (with_reducible refine Up.alloc ?_ _) | (with_reducible refine Up.drew ?_) | ((with_reducible refine Up.set ?_ ?_ _); rotate_left; focus (first | omega | (simp; done) | (simp; omega))) | (with_reducible refine Up.drewN ?_ _) | (with_reducible refine Up.call ?_ (by with_reducible assumption))))))).mono ?_); rintro e w7 ⟨rfl, hb7⟩) <;> (have hle := Up.le hb7; (try simp only [World.size_alloc, World.size_setCell, World.size_drew, World.heap_drewN] at hle); clear hle)))
          go_roundw
          case rel => exact ⟨j + 1, v4, l2, by have := Hlt.out; omega, by go_num, by go_num, HL4.out.up (by (repeat (first | (with_reducible exact Up.refl _) | (with_reducible assumption) | (with_reducible refine Up.alloc ?_ _) | (with_reducible refine Up.drew ?_) | ((with_reducible refine Up.set ?_ ?_ _); rotate_left; focus (first | omega | (simp; done) | (simp; omega))) | (with_reducible refine Up.drewN ?_ _) | (with_reducible refine Up.call ?_ (by with_reducible assumption))))), HS2.out, by (repeat (first | (with_reducible exact Up.refl _) | (with_reducible assumption) | (with_reducible refine Up.alloc ?_ _) | (with_reducible refine Up.drew ?_) | ((with_reducible refine Up.set ?_ ?_ _); rotate_left; focus (first | omega | (simp; done) | (simp; omega))) | (with_reducible refine Up.drewN ?_ _) | (with_reducible refine Up.call ?_ (by with_reducible assumption))))⟩
          case measure => have := Hlt.out; simp [intOf]; omega
        · have d1 : decide ((a : Int) < (j : Int)) = true := decide_eq_true (by omega)
          have d2 : decide ((j : Int) ≤ (a : Int)) = false := decide_eq_false (by omega)
          have d3 : ((j : Int) == (a : Int)) = false := beq_eq_false_iff_ne.2 (by omega)
          have d4 : decide ((j : Int) < (a : Int)) = false := decide_eq_false (by omega)
          have n1 : a < j := by omega
          have n2 : ¬ j ≤ a := by omega
          have n3 : ¬ j = a := by omega
          have n4 : ¬ j < a := by omega
          obtain rfl := hr2 (by omega)
          rw [if_neg (by omega)] at hn
          have Hn := hid hn; have Hp := hid hp
          clear hn hp hs2 hr1 hr2 hlt hc
          go_wp2_with (first
                        | ((go_at_call 13; (with_reducible refine (putNil_B (HL.out.up (by (repeat (first | (with_reducible exact Up.refl _) | (with_reducible assumption) | (with_reducible refine Up.alloc ?_ _) | (with_reducible refine Up.drew ?_) | ((with_reducible refine Up.set ?_ ?_ _); rotate_left; focus (first | omega | (simp; done) | (simp; omega))) | (with_reducible refine Up.drewN ?_ _) | (with_reducible refine Up.call ?_ (by with_reducible assumption)))))) Hn.out HP.out).mono ?_); rintro e w3 ⟨v3, rfl, hL3⟩ <;> (have hb3 := hL3.since; have HL3 := hid hL3; clear hL3)) <;> (have hle := Up.le hb3; (try simp only [World.size_alloc, World.size_setCell, World.size_drew, World.heap_drewN] at hle); clear hle))
                        | ((go_at_call 13; (with_reducible refine (putX_B (HL3.out.up (by (repeat (first | (with_reducible exact Up.refl _) | (with_reducible assumption) | (with_reducible refine Up.alloc ?_ _) | (with_reducible refine Up.drew ?_) | ((with_reducible refine Up.set ?_ ?_ _); rotate_left; focus (first | omega | (simp; done) | (simp; omega))) | (with_reducible refine Up.drewN ?_ _) | (with_reducible refine Up.call ?_ (by with_reducible assumption)))))) Hp.out HP.out).mono ?_); rintro e w4 ⟨v4, rfl, hL4⟩ <;> (have hb4 := hL4.since; have HL4 := hid hL4; clear hL4)) <;> (have hle := Up.le hb4; (try simp only [World.size_alloc, World.size_setCell, World.size_drew, World.heap_drewN] at hle); clear hle))
                        | ((go_at_call 10; (with_reducible refine (serr_some 6 6 _ (HD.out.up (by (repeat (first | (with_reducible exact Up.refl _) | (with_reducible assumption) | (with_reducible refine Up.alloc ?_ _) | (with_reducible refine Up.drew ?_) | ((with_reducible refine Up.set ?_ ?_ _); rotate_left; focus (first | omega | (simp; done) | (simp; omega))) | (with_reducible refine Up.drewN ?_ _) | (with_reducible refine Up.call ?_ (by with_reducible assumption))))))).mono ?_); rintro e w5 ⟨rfl, hb5⟩) <;> (have hle := Up.le hb5; (try simp only [World.size_alloc, World.size_setCell, World.size_drew, World.heap_drewN] at hle); clear hle))
                        | ((go_at_call 10; (with_reducible refine (serr_some 6 5 _ (HD.out.up (by (repeat (first | (with_reducible exact Up.refl _) | (with_reducible assumption) | (with_reducible refine Up.alloc ?_ _) | (with_reducible refine Up.drew ?_) | ((with_reducible refine Up.set ?_ ?_ _); rotate_left; focus (first | omega | (simp; done) | (simp; omega))) | (with_reducible refine Up.drewN ?_ _) | (with_reducible refine Up.call ?_ (by with_reducible assumption))))))).mono ?_); rintro e w6 ⟨rfl, hb6⟩) <;> (have hle := Up.le hb6; (try simp only [World.size_alloc, World.size_setCell, World.size_drew, World.heap_drewN] at hle); clear hle)))
          go_roundw
          case rel => exact ⟨j + 1, v4, l2, by have := Hlt.out; omega, by go_num, by go_num, HL4.out.up (by (repeat (first | (with_reducible exact Up.refl _) | (with_reducible assumption) | (with_reducible refine Up.alloc ?_ _) | (with_reducible refine Up.drew ?_) | ((with_reducible refine Up.set ?_ ?_ _); rotate_left; focus (first | omega | (simp; done) | (simp; omega))) | (with_reducible refine Up.drewN ?_ _) | (with_reducible refine Up.call ?_ (by with_reducible assumption))))), HS2.out, by (repeat (first | (with_reducible exact Up.refl _) | (with_reducible assumption) | (with_reducible refine Up.alloc ?_ _) | (with_reducible refine Up.drew ?_) | ((with_reducible refine Up.set ?_ ?_ _); rotate_left; focus (first | omega | (simp; done) | (simp; omega))) | (with_reducible refine Up.drewN ?_ _) | (with_reducible refine Up.call ?_ (by with_reducible assumption))))⟩
          case measure => have := Hlt.out; simp [intOf]; omega
      · obtain rfl : j = m := by omega
        clear hlt H0 HL2 HL1
        go_wp2
        go_loopw [10, 17] (fun st _ ws => ∃ (i : Nat) (v : Value) (l : Lg), i ≤ 16 ∧ st = .int .i64 i ∧ Hid (LgB w ws w.heap.size w1.heap.size v l [⟨-7, 7⟩]) ∧ Hid (StopP a i j l) ∧ Up w ws) (fun st _ _ => 20 - (intOf st).toNat)
        case atStart => exact ⟨j, v, l, by omega, rfl, HL.out, HS.out, hU⟩
        case round =>
          obtain ⟨i, v, l, hi, rfl, HL, HS, hU⟩ := hrel
          have hi0 : (0 : Int) ≤ (i : Int) := by omega
          have hi9 : (i : Int) ≤ 16 := by omega
          by_cases hlt : i ≤ a
          · have hkm : (i : Int) ≤ (a : Int) := by omega
            have hdk : decide ((i : Int) ≤ (a : Int)) = true := by simp; omega
            have Hlt := hid hlt
            obtain ⟨r, l2, hp, hs2, hr1, hr2⟩ := HS.out.sync hlt
            have HS2 := hid hs2
            rcases Nat.lt_or_eq_of_le hlt with hc | hc
            · have d3 : ((i : Int) == (a : Int)) = false := beq_eq_false_iff_ne.2 (by omega)
              have n3 : ¬ i = a := by omega
              have n2 : i ≤ a := by omega
              obtain rfl := hr1 hc
              have Hp := hid hp
              clear hp hs2 hr1 hr2 hlt hc
              go_wp2_with (first
                        | ((go_at_call 18; (with_reducible refine (sync_B (HL.out.up (by (repeat (first | (with_reducible exact Up.refl _) | (with_reducible assumption) | (with_reducible refine Up.alloc ?_ _) | (with_reducible refine Up.drew ?_) | ((with_reducible refine Up.set ?_ ?_ _); rotate_left; focus (first | omega | (simp; done) | (simp; omega))) | (with_reducible refine Up.drewN ?_ _) | (with_reducible refine Up.call ?_ (by with_reducible assumption)))))) Hp.out).mono ?_); rintro e w3 ⟨v3, rfl, hL3⟩ <;> (have hb3 := hL3.since; have HL3 := hid hL3; clear hL3)) <;> (have hle := Up.le hb3; (try simp only [World.size_alloc, World.size_setCell, World.size_drew, World.heap_drewN] at hle); clear hle)))
              go_roundw
              case rel => exact ⟨i + 1, v3, l2, by have := Hlt.out; omega, by go_num, HL3.out.up (by (repeat (first | (with_reducible exact Up.refl _) | (with_reducible assumption) | (with_reducible refine Up.alloc ?_ _) | (with_reducible refine Up.drew ?_) | ((with_reducible refine Up.set ?_ ?_ _); rotate_left; focus (first | omega | (simp; done) | (simp; omega))) | (with_reducible refine Up.drewN ?_ _) | (with_reducible refine Up.call ?_ (by with_reducible assumption))))), HS2.out, by (repeat (first | (with_reducible exact Up.refl _) | (with_reducible assumption) | (with_reducible refine Up.alloc ?_ _) | (with_reducible refine Up.drew ?_) | ((with_reducible refine Up.set ?_ ?_ _); rotate_left; focus (first | omega | (simp; done) | (simp; omega))) | (with_reducible refine Up.drewN ?_ _) | (with_reducible refine Up.call ?_ (by with_reducible assumption))))⟩
              case measure => have := Hlt.out; simp [intOf]; omega
            · have d3 : ((i : Int) == (a : Int)) = true := beq_iff_eq.2 (by omega)
              have n3 : i = a := by omega
              have n2 : i ≤ a := by omega
              have d5 : (!((i : Int) == (a : Int))) = false := by rw [d3]; rfl
              obtain rfl := hr2 hc
              have Hp := hid hp
              clear hp hs2 hr1 hr2 hlt hc
              go_wp2_with (first
                        | ((go_at_call 18; (with_reducible refine (sync_B (HL.out.up (by (repeat (first | (with_reducible exact Up.refl _) | (with_reducible assumption) | (with_reducible refine Up.alloc ?_ _) | (with_reducible refine Up.drew ?_) | ((with_reducible refine Up.set ?_ ?_ _); rotate_left; focus (first | omega | (simp; done) | (simp; omega))) | (with_reducible refine Up.drewN ?_ _) | (with_reducible refine Up.call ?_ (by with_reducible assumption)))))) Hp.out).mono ?_); rintro e w3 ⟨v3, rfl, hL3⟩ <;> (have hb3 := hL3.since; have HL3 := hid hL3; clear hL3)) <;> (have hle := Up.le hb3; (try simp only [World.size_alloc, World.size_setCell, World.size_drew, World.heap_drewN] at hle); clear hle)))
              go_roundw
              case rel => exact ⟨i + 1, v3, l2, by have := Hlt.out; omega, by go_num, HL3.out.up (by (repeat (first | (with_reducible exact Up.refl _) | (with_reducible assumption) | (with_reducible refine Up.alloc ?_ _) | (with_reducible refine Up.drew ?_) | ((with_reducible refine Up.set ?_ ?_ _); rotate_left; focus (first | omega | (simp; done) | (simp; omega))) | (with_reducible refine Up.drewN ?_ _) | (with_reducible refine Up.call ?_ (by with_reducible assumption))))), HS2.out, by (repeat (first | (with_reducible exact Up.refl _) | (with_reducible assumption) | (with_reducible refine Up.alloc ?_ _) | (with_reducible refine Up.drew ?_) | ((with_reducible refine Up.set ?_ ?_ _); rotate_left; focus (first | omega | (simp; done) | (simp; omega))) | (with_reducible refine Up.drewN ?_ _) | (with_reducible refine Up.call ?_ (by with_reducible assumption))))⟩
              case measure => have := Hlt.out; simp [intOf]; omega
          · have hdk : decide ((i : Int) ≤ (a : Int)) = false := decide_eq_false (by omega)
            obtain ⟨o1, o2⟩ := HS.out.over (by omega) [⟨-7, 7⟩]
            obtain ⟨l2, l3, p1, p2, p3, p4, p5, p6⟩ := after_crash HS.out.sides (by have := HS.out.few; omega) k
            obtain ⟨X, hX⟩ : ∃ X, (crashF l k).all = X := ⟨_, rfl⟩
            have hXl := p6
            rw [p3, hX] at p4
            rw [hX] at hXl
            have O1 := hid o1; have O2 := hid o2; have P1 := hid p1; have P2 := hid p2; have P4 := hid p4; have P5 := hid p5; have HX := hid hX
            obtain ⟨n, hn⟩ : ∃ n, X.length = n := ⟨_, rfl⟩
            have Hn := hid hn
            have hn15 : n ≤ 15 := by omega
            have P4l := hid (show l3.all.length = n + 1 by rw [p4]; simp; omega)
            clear o1 o2 p1 p2 p3 p4 p5 p6 hX hn hXl
            go_wp2_with (first
                        | ((go_at_call 16; (with_reducible refine (all_any w.heap.size v9 l3 _ (HL9.out.log.up (by (repeat (first | (with_reducible exact Up.refl _) | (with_reducible assumption) | (with_reducible refine Up.alloc ?_ _) | (with_reducible refine Up.drew ?_) | ((with_reducible refine Up.set ?_ ?_ _); rotate_left; focus (first | omega | (simp; done) | (simp; omega))) | (with_reducible refine Up.drewN ?_ _) | (with_reducible refine Up.call ?_ (by with_reducible assumption))))))).mono ?_); rintro e w10 ⟨x10, v10, hx10, rfl, hv10, hb10⟩ <;> (subst hx10; obtain ⟨A10, c10, rfl, hr10, hc10⟩ := hv10; rw [P4l.out]; rw [P4.out] at hr10; obtain ⟨b11, o11, A11, c11, rfl, lb11, hk11, hr11⟩ := last_box hr10; rw [Hn.out] at hk11; obtain ⟨b12, o12, rfl, lb12, hk12, -⟩ := one_at hr11; have Hr11 := hid hr11; clear hr10 hr11)) <;> (have hle := Up.le hb10; (try simp only [World.size_alloc, World.size_setCell, World.size_drew, World.heap_drewN] at hle); clear hle))
                        | ((go_at_call 18; (with_reducible refine (sync_B (HL8.out.up (by (repeat (first | (with_reducible exact Up.refl _) | (with_reducible assumption) | (with_reducible refine Up.alloc ?_ _) | (with_reducible refine Up.drew ?_) | ((with_reducible refine Up.set ?_ ?_ _); rotate_left; focus (first | omega | (simp; done) | (simp; omega))) | (with_reducible refine Up.drewN ?_ _) | (with_reducible refine Up.call ?_ (by with_reducible assumption)))))) P2.out).mono ?_); rintro e w9 ⟨v9, rfl, hL9⟩ <;> (have hb9 := hL9.since; have HL9 := hid hL9; clear hL9)) <;> (have hle := Up.le hb9; (try simp only [World.size_alloc, World.size_setCell, World.size_drew, World.heap_drewN] at hle); clear hle))
                        | ((go_at_call 18; (with_reducible refine (sync_B (HL.out.up (by (repeat (first | (with_reducible exact Up.refl _) | (with_reducible assumption) | (with_reducible refine Up.alloc ?_ _) | (with_reducible refine Up.drew ?_) | ((with_reducible refine Up.set ?_ ?_ _); rotate_left; focus (first | omega | (simp; done) | (simp; omega))) | (with_reducible refine Up.drewN ?_ _) | (with_reducible refine Up.call ?_ (by with_reducible assumption)))))) O1.out).mono ?_); rintro e w3 ⟨v3, rfl, hL3⟩ <;> (have hb3 := hL3.since; have HL3 := hid hL3; clear hL3)) <;> (have hle := Up.le hb3; (try simp only [World.size_alloc, World.size_setCell, World.size_drew, World.heap_drewN] at hle); clear hle))
                        | ((go_at_call 13; (with_reducible refine (putX_B (HL3.out.up (by (repeat (first | (with_reducible exact Up.refl _) | (with_reducible assumption) | (with_reducible refine Up.alloc ?_ _) | (with_reducible refine Up.drew ?_) | ((with_reducible refine Up.set ?_ ?_ _); rotate_left; focus (first | omega | (simp; done) | (simp; omega))) | (with_reducible refine Up.drewN ?_ _) | (with_reducible refine Up.call ?_ (by with_reducible assumption)))))) O2.out HP.out).mono ?_); rintro e w4 ⟨v4, rfl, hL4⟩ <;> (have hb4 := hL4.since; have HL4 := hid hL4; clear hL4)) <;> (have hle := Up.le hb4; (try simp only [World.size_alloc, World.size_setCell, World.size_drew, World.heap_drewN] at hle); clear hle))
                        | ((go_at_call 10; (with_reducible refine (serr_some 6 6 _ (HD.out.up (by (repeat (first | (with_reducible exact Up.refl _) | (with_reducible assumption) | (with_reducible refine Up.alloc ?_ _) | (with_reducible refine Up.drew ?_) | ((with_reducible refine Up.set ?_ ?_ _); rotate_left; focus (first | omega | (simp; done) | (simp; omega))) | (with_reducible refine Up.drewN ?_ _) | (with_reducible refine Up.call ?_ (by with_reducible assumption))))))).mono ?_); rintro e w5 ⟨rfl, hb5⟩) <;> (have hle := Up.le hb5; (try simp only [World.size_alloc, World.size_setCell, World.size_drew, World.heap_drewN] at hle); clear hle))
                        | ((go_at_call 19; (with_reducible refine (crash_B k (HL4.out.up (by (repeat (first | (with_reducible exact Up.refl _) | (with_reducible assumption) | (with_reducible refine Up.alloc ?_ _) | (with_reducible refine Up.drew ?_) | ((with_reducible refine Up.set ?_ ?_ _); rotate_left; focus (first | omega | (simp; done) | (simp; omega))) | (with_reducible refine Up.drewN ?_ _) | (with_reducible refine Up.call ?_ (by with_reducible assumption)))))) HK.out).mono ?_); rintro e w6 ⟨v6, rfl, hL6⟩ <;> (have hb6 := hL6.since; have lg6 : w.heap.size < w6.heap.size := hL6.log.lt; have HL6 := hid hL6; clear hL6)) <;> (have hle := Up.le hb6; (try simp only [World.size_alloc, World.size_setCell, World.size_drew, World.heap_drewN] at hle); clear hle))
                        | ((go_at_call 16; (with_reducible refine (all_any w.heap.size v6 (crashF l k) _ (HL6.out.log.up (by (repeat (first | (with_reducible exact Up.refl _) | (with_reducible assumption) | (with_reducible refine Up.alloc ?_ _) | (with_reducible refine Up.drew ?_) | ((with_reducible refine Up.set ?_ ?_ _); rotate_left; focus (first | omega | (simp; done) | (simp; omega))) | (with_reducible refine Up.drewN ?_ _) | (with_reducible refine Up.call ?_ (by with_reducible assumption))))))).mono ?_); rintro e w7 ⟨x7, v7, hx7, rfl, hv7, hb7⟩ <;> (subst hx7; obtain ⟨A7, c7, rfl, hr7, hc7⟩ := hv7; rw [HX.out, Hn.out]; clear hr7; have lg7 : w.heap.size < w7.heap.size := Nat.lt_of_lt_of_le lg6 hb7.le)) <;> (have hle := Up.le hb7; (try simp only [World.size_alloc, World.size_setCell, World.size_drew, World.heap_drewN] at hle); clear hle))
                        | ((go_at_call 13; (with_reducible refine (putOne_B (lo := 3) (hi := 4) (HL6.out.up (by (repeat (first | (with_reducible exact Up.refl _) | (with_reducible assumption) | (with_reducible refine Up.alloc ?_ _) | (with_reducible refine Up.drew ?_) | ((with_reducible refine Up.set ?_ ?_ _); rotate_left; focus (first | omega | (simp; done) | (simp; omega))) | (with_reducible refine Up.drewN ?_ _) | (with_reducible refine Up.call ?_ (by with_reducible assumption)))))) P1.out (by go_simp) (by go_simp) (by omega) HP.out).mono ?_); rintro e w8 ⟨v8, rfl, hL8⟩ <;> (have hb8 := hL8.since; have HL8 := hid hL8; clear hL8)) <;> (have hle := Up.le hb8; (try simp only [World.size_alloc, World.size_setCell, World.size_drew, World.heap_drewN] at hle); clear hle))
                        | ((go_at_call 20; (with_reducible refine (bcheck_lit three_ok _ _ _ (Hr11.out.up (by (repeat (first | (with_reducible exact Up.refl _) | (with_reducible assumption) | (with_reducible refine Up.alloc ?_ _) | (with_reducible refine Up.drew ?_) | ((with_reducible refine Up.set ?_ ?_ _); rotate_left; focus (first | omega | (simp; done) | (simp; omega))) | (with_reducible refine Up.drewN ?_ _) | (with_reducible refine Up.call ?_ (by with_reducible assumption))))))).mono ?_); rintro e w14 ⟨x14, rfl, rfl, hb14⟩ <;> (obtain ⟨k14, k14'⟩ := bcell hb14)) <;> (have hle := Up.le hb14; (try simp only [World.size_alloc, World.size_setCell, World.size_drew, World.heap_drewN] at hle); clear hle))
                        | ((go_at_call 21; (with_reducible refine (safe_any w.heap.size v9 l3 _ (HL9.out.log.up (by (repeat (first | (with_reducible exact Up.refl _) | (with_reducible assumption) | (with_reducible refine Up.alloc ?_ _) | (with_reducible refine Up.drew ?_) | ((with_reducible refine Up.set ?_ ?_ _); rotate_left; focus (first | omega | (simp; done) | (simp; omega))) | (with_reducible refine Up.drewN ?_ _) | (with_reducible refine Up.call ?_ (by with_reducible assumption))))))).mono ?_); rintro e w12 ⟨x12, rfl, rfl, hb12⟩ <;> (rw [P5.out])) <;> (have hle := Up.le hb12; (try simp only [World.size_alloc, World.size_setCell, World.size_drew, World.heap_drewN] at hle); clear hle))
                        | ((go_at_call 15; (with_reducible refine (bytes_any w.heap.size v9 l3 _ (HL9.out.log.up (by (repeat (first | (with_reducible exact Up.refl _) | (with_reducible assumption) | (with_reducible refine Up.alloc ?_ _) | (with_reducible refine Up.drew ?_) | ((with_reducible refine Up.set ?_ ?_ _); rotate_left; focus (first | omega | (simp; done) | (simp; omega))) | (with_reducible refine Up.drewN ?_ _) | (with_reducible refine Up.call ?_ (by with_reducible assumption))))))).mono ?_); rintro e w13 ⟨x13, rfl, rfl, hb13⟩) <;> (have hle := Up.le hb13; (try simp only [World.size_alloc, World.size_setCell, World.size_drew, World.heap_drewN] at hle); clear hle)))
            go_ret
            exact LawEnd.mk (by first | rfl | (simp; done)) (by (repeat (first | (with_reducible exact Up.refl _) | (with_reducible assumption) | (with_reducible refine Up.alloc ?_ _) | (with_reducible refine Up.drew ?_) | ((with_reducible refine Up.set ?_ ?_ _); rotate_left; focus (first | omega | (simp; done) | (simp; omega))) | (with_reducible refine Up.drewN ?_ _) | (with_reducible refine Up.call ?_ (by with_reducible assumption)))))
  all_goals
    go_enter Tryd.func5, Tryd.ntmps5
    go_wp2_with (first
                        | ((go_at_call 12; (with_reducible refine (HNW.out _).mono ?_); rintro e w1 ⟨rfl, hl1, hb1⟩) <;> (have hle := Up.le hb1; (try simp only [World.size_alloc, World.size_setCell, World.size_drew, World.heap_drewN] at hle); clear hle)))
    go_ret
    exact LawEnd.mk rfl (by (repeat (first | (with_reducible exact Up.refl _) | (with_reducible assumption) | (with_reducible refine Up.alloc ?_ _) | (with_reducible refine Up.drew ?_) | ((with_reducible refine Up.set ?_ ?_ _); rotate_left; focus (first | omega | (simp; done) | (simp; omega))) | (with_reducible refine Up.drewN ?_ _) | (with_reducible refine Up.call ?_ (by with_reducible assumption)))))

set_option maxRecDepth 100000 in
theorem logStops_lifted (os : Os) (started : os.Started) (H : Type) (enc : TypeId × Value → H) :
    ReturnsInHanded {} Tryd.checked os 5 .any (fun w args => (Rows.logStopsSpec.pre enc Tryd.prog Tryd.f5 [] false w args ∧ laidMetH Tryd.prog laidL4 w) ∧ sizedMet enc Tryd.prog Tryd.f5 (OpenSpec.ofChange Rows.logStopsSpec) false w args) (Rows.logStopsSpec.post enc Tryd.prog Tryd.f5 false true false false) := by
  refine returnsInHanded_of_change_and (C := Tryd.checked) (X := fun w _ => laidMetH Tryd.prog laidL4 w) (fun _ _ _ hh h => h.of_heap hh) Tryd.own started (by kernel_rfl) Tryd.func5
    (ChangeSpec.witness_at (enc := enc) (C := Tryd.checked) (os := os) (X := fun w _ => laidMetH Tryd.prog laidL4 w) false (laidWorld4 os) #[.int .i64 0, .int .i64 0, .int .i64 0] 8 rfl (by kernel_rfl) (by kernel_rfl) (by kernel_rfl) (by kernel_rfl) (by kernel_rfl) (laidWorld4_met os _)) ?_
  intro W base args ds gs before hval0 hW _ _ hL _
  have hdoor := door4_of_laid hL
  have hval : ∀ (j : Nat) t v, Tryd.f5.params[j]? = some t → args[j]? = some v → Value.okWide Tryd.prog W .any base t v := hval0
  have hW' := hW
  obtain ⟨p, q, hA0, hV, rfl, hfz, hnd⟩ := hW
  have hA : DataW.TrodAll enc Tryd.prog W 0 (fun _ => true) true Tryd.f5.params.toList args.toList ds p := hA0
  rw [Tryd.params5] at hA hval
  obtain ⟨v0, v1, v2, d0, d1, d2, p0, p1, p2, rfl, rfl, rfl, h0, h1, h2⟩ := trodAll_three hA
  obtain ⟨rfl, rfl⟩ := trodVars_none hV
  obtain ⟨n0, rfl, w0⟩ := open_i64 Tryd.underlying3 (hval 0 3 _ rfl rfl) h0
  obtain ⟨n1, rfl, w1⟩ := open_i64 Tryd.underlying3 (hval 1 3 _ rfl rfl) h1
  obtain ⟨n2, rfl, w2⟩ := open_i64 Tryd.underlying3 (hval 2 3 _ rfl rfl) h2
  clear hA0 hval0
  refine (logStops_walk n0 n1 n2 W w0 w1 w2 hdoor).mono fun e W' ⟨he, hu⟩ => ?_
  subst he
  exact ⟨_, rfl, law_post Tryd.laidOut rfl rfl Tryd.underlying4 (fun t ht => by simp [Tryd.params5] at ht; (try rcases ht with rfl); all_goals (first | (subst ht; exact ⟨by kernel_rfl, of_decide_eq_true (by kernel_rfl)⟩) | exact ⟨by kernel_rfl, of_decide_eq_true (by kernel_rfl)⟩)) hW' rfl rfl rfl hu⟩
theorem logStops_k1 : (Rows.logStopsRow.inPlace == Tryd.pinned.checked.prog.inPlace 5) = true := by kernel_rfl
theorem logStops_k2 : (Rows.logStopsRow.unfollowed == Tryd.pinned.checked.prog.unfollowed 5) = true := by kernel_rfl
theorem logStops_k3 : (Rows.logStopsRow.recurses == Tryd.pinned.checked.prog.recurses 5) = true := by kernel_rfl
theorem logStops_k4 : (Rows.logStopsRow.named == Tryd.pinned.checked.prog.varsNamed 5) = true := by kernel_rfl
theorem logStops_facts : joinedFacts Tryd.pinned.checked.prog 5 Tryd.f5 Rows.logStopsSpec Rows.logStopsRow = true :=
  joined_of _ _ _ _ _ Tryd.g1 Tryd.g2 Tryd.g3 Tryd.g4 Tryd.g5 Tryd.g6 Tryd.g7 Tryd.g8 Tryd.g9 logStops_k1 logStops_k2 logStops_k3 logStops_k4 (by kernel_rfl)
theorem logStops_bare : Rows.LogStopsSaid :=
  OpenClaim.holds_of_wide 5 Tryd.f5 rfl rfl rfl rfl rfl rfl rfl ⟨rfl, rfl, rfl, rfl, rfl⟩ rfl rfl rfl rfl rfl (by kernel_rfl) Tryd.func5 logStops_facts
    (of_decide_eq_true (by kernel_rfl)) (by unfold Func.isWrapper; rw [if_neg (by decide +kernel)]; exact ⟨rfl, rfl⟩)
    (fun os started H enc _ => logStops_lifted os started H enc)
theorem logStops_holds : Rows.LogStopsCardSaid :=
  Claim7.holds_tied_plain_at .later [] [.data, .data, .data, .handle] true (true, "81e5e7a0832d8737f58bea7b0b5dc6a3e1fad632e21171769fdfff66c1c4c699") true logStops_bare (fun _ h => by cases h) (by kernel_rfl) (fun _ h => by cases h) logStops_row_tie rfl ⟨rfl, rfl⟩ door_main rfl
    (fun f fn hf hfn => by
      obtain rfl : f = 5 := Option.some.inj ((show Tryd.prog.funcNamed "spanmeadow/spanlaw3.LogStops" = some 5 by kernel_rfl).symm.trans hf) |>.symm
      obtain rfl : fn = Tryd.f5 := (Option.some.inj (Tryd.func5.symm.trans hfn)).symm
      exact ⟨door_looks.symm, fun j t ht => by
        rw [Tryd.params5] at ht
        have hm : t ∈ [3] := by
          have := Array.mem_of_getElem? ht
          simpa using this
        simp only [List.mem_cons, List.not_mem_nil, or_false] at hm
        rcases hm with rfl
        · exact (show Tryd.prog.wantsStandIn 3 = false by kernel_rfl)⟩)
    (by kernel_rfl)
#print axioms logStops_holds
end Go.Proofs.YtopgjbjpmnlldaaDoor
