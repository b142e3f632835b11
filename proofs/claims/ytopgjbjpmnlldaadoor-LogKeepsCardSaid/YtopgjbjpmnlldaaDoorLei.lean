/- LogKeeps: what is safe is kept. -/
import Derived.Test.YtopgjbjpmnlldaaDoorLeip
import Derived.Test.YtopgjbjpmnlldaaDoorRowc
import Derived.Test.YtopgjbjpmnlldaaDoorSbox
import Derived.Test.YtopgjbjpmnlldaaDoorRfbb
import Derived.Deep.DeepCutAuto
import Derived.Deep.CutBlock
import Derived.Deep.RegionHeld3

set_option linter.unusedVariables false
set_option linter.unusedSimpArgs false
namespace Go.Proofs.YtopgjbjpmnlldaaDoor
open Go.ChangeShapes Go.WideShapes Go.ChangeAt Go.RowKit Go.Joins Go.Deep

/-- The log of one's own, at the law's head. -/
theorem fixed_log : ∃ l1 l2 l3, putF (newF 1) [⟨1, 2⟩] = (none, l1) ∧ syncF l1 = (none, l2) ∧ putF l2 [⟨5, 9⟩] = (none, l3) ∧ hullF l3.all = .ok [⟨1, 9⟩] ∧ (crashF l3 0).all = [[⟨1, 2⟩]] ∧ (crashF l3 0).safe = (crashF l3 0).text.length := by
  refine ⟨⟨1, [[⟨1, 2⟩]], [recN [⟨1, 2⟩]], [], 0, -1, false⟩, ⟨1, [[⟨1, 2⟩]], [recN [⟨1, 2⟩]], [], (joinR [recN [⟨1, 2⟩]] ++ []).length, -1, false⟩, ⟨1, [[⟨1, 2⟩], [⟨5, 9⟩]], [recN [⟨1, 2⟩], recN [⟨5, 9⟩]], [], (joinR [recN [⟨1, 2⟩]] ++ []).length, -1, false⟩, rfl, rfl, rfl, rfl, ?_, by simp [crashF, Lg.text]⟩
  generalize recN [⟨1, 2⟩] = a
  generalize recN [⟨5, 9⟩] = b
  have hk : keepN ⟨1, [[⟨1, 2⟩], [⟨5, 9⟩]], [a, b], [], (joinR [a] ++ []).length, -1, false⟩ 0 = (joinR [a]).length := by
    unfold keepN
    simp only [List.append_nil, Lg.text]
    have : (joinR [a]).length ≤ (joinR [a, b]).length := by simp [joinR]
    omega
  have h1 := whole_mark 1 [a, b] (joinR [a]).length (by simp)
  have h2 := whole_mark 2 [a, b] (joinR [a]).length (by simp)
  have h3 : ¬ 2 ≤ wholeN [a, b] (joinR [a]).length := fun h => by
    have := h2.2 h
    simp [joinR] at this
  have h4 : 1 ≤ wholeN [a, b] (joinR [a]).length := h1.1 (Nat.le_refl _)
  show List.take (wholeN [a, b] (keepN _ 0)) [[(⟨1, 2⟩ : Sp)], [⟨5, 9⟩]] = _
  rw [hk]
  have h5 : wholeN [a, b] (joinR [a]).length = 1 := by omega
  rw [h5]
  rfl
theorem new_goodG (n : Int) (w : World) (h1 : 1 ≤ n) (h3 : n ≤ 3) : Calls Tryd.prog 12 #[.int .i64 n] w fun e w' => ∃ g, e = .returned (.tuple #[.pointer (some ⟨g, 0, none⟩), .nilIface]) ∧ LogS (fun b => b ≤ g) w' g (.slice none 0 0) (newF n) ∧ Up w w' ∧ w.heap.size ≤ g :=
  (new_good n w h1 h3).mono fun e w' h => ⟨_, h.1, h.2.1, h.2.2, Nat.le_refl _⟩
/-- The only box, where it lies. -/
theorem only_box {W : World} {A : Option Addr} {s : Sp} (h : RdR RdS W A [[s]]) : ∃ b o A' c', A = some ⟨b, o, none⟩ ∧ b < W.heap.size ∧ W.cell? ⟨b, o, none⟩ = some (.slice A' 1 c') ∧ RdS W A' [s] := by
  obtain ⟨b, o, e, hb, hc⟩ := h.at (by simp)
  obtain ⟨A', c', q1, -, q3⟩ := hc 0 (by simp)
  exact ⟨b, o, A', c', e, hb, q1, q3⟩
theorem single_at {w : World} {A : Option Addr} {s : Sp} (h : RdS w A [s]) : ∃ b o, A = some ⟨b, o, none⟩ ∧ b < w.heap.size ∧ w.cell? ⟨b, o, none⟩ = some (.int .i64 s.lo) ∧ w.cell? ⟨b, o + 1, none⟩ = some (.int .i64 s.hi) := by
  obtain ⟨b, o, e, hb, hc⟩ := h.at (by simp)
  exact ⟨b, o, e, hb, (hc 0 (by simp)).1, (hc 0 (by simp)).2⟩
/-- Where the second log begins. -/
theorem KS.start {w W : World} {g : Nat} {l : Lg} (h : LogS (fun b => b ≤ g) W g (.slice none 0 0) l) (hu : Up w W) (hg : w.heap.size ≤ g) (T : TypeId) (hT : T = 3) : ∃ Q, KS Q w (W.alloc (.cells #[.int .i64 0] T)) g (.slice none 0 0) (.slice none 0 0) (.slice (some ⟨W.heap.size, 0, none⟩) 1 1) l [] [] := by
  subst hT
  have hlt := h.lt
  have hua : Up W (W.alloc (.cells #[.int .i64 0] 3)) := (Up.refl W).alloc _
  refine ⟨fun b => b ≤ g ∨ b = W.heap.size, ⟨h.grow (grown_up hua) (fun k e => by cases e) (fun b hb => ?_) (.inl (Nat.le_refl _)), hu.alloc _, hg, OwnR.nil _ _ _ _, World.ownsRow_lit W #[.int .i64 0] 1 (by omega) (by decide) rfl, (fun k e => by cases e), fun k e => ⟨.inr ?_, fun e2 => by cases e2⟩⟩⟩
  · rcases hb with hb | hb
    · exact .inl hb
    · refine .inr ⟨by omega, ?_⟩
      subst hb; simp
  · injection e with e; exact e.symm
theorem sbox_nilA (A : Option Addr) (c : Nat) (w : World) : Calls Tryd.prog 25 #[.slice none 0 0, .slice A 0 c] w fun ev w' => ev = .returned (.bool true) ∧ Up w w' :=
  sbox_self none A [] 0 c w (RdS.nil w none) (RdS.nil w A) (by simp)
theorem ownsUp {w w' : World} {base : Nat} {T : TypeId} {n m : Nat} {v : Value} {xs : List Value} (h : w.ownsRow base T n v m xs) (hu : Up w w') : w'.ownsRow base T n v m xs :=
  World.ownsRow.kept h (row := none) (grown_up hu) (by cases v.ownBlock <;> simp)





set_option maxRecDepth 100000 in
set_option maxHeartbeats 16000000 in
theorem logKeeps_out (s : Int) (Al : Option Addr) (ll : List (List Sp)) (cl : Nat) (As : Option Addr) (ss : List Int) (cs : Nat) (Af : Option Addr) (ff : List Int) (cf : Nat) (Ak : Option Addr) (kk : List Int) (ck : Nat) (w : World) (hd : Door4 w) (hs : s < 1 ∨ 3 < s) :
    Calls Tryd.prog 6 #[.int .i64 s, .slice Al ll.length cl, .slice As ss.length cs, .slice Af ff.length cf, .slice Ak kk.length ck] w (LawEnd w) := by
  have HD := hid hd.1; have HP := hid hd.2
  have HNW := hid (fun W => new_good 1 W (by omega) (by omega))
  obtain ⟨l1, l2, l3, p1, p2, p3, p4, p5, p6⟩ := fixed_log
  have P1 := hid p1; have P2 := hid p2; have P3 := hid p3; have P4 := hid p4; have P5 := hid p5; have P6 := hid p6
  have HI0 := hid (show I64 0 from ⟨by omega, by omega⟩)
  have HNB := hid (fun W => new_bad s W hs)
  have hor : decide (s < 1) = true ∨ (decide (s < 1) = false ∧ decide (3 < s) = true) := by
    by_cases h : s < 1
    · exact .inl (decide_eq_true h)
    · exact .inr ⟨decide_eq_false h, decide_eq_true (by omega)⟩
  have HOR := hid hor
  clear hd hs hor p1 p2 p3 p4 p5 p6
  go_enter Tryd.func6, Tryd.ntmps6
  go_upto_region 10 with (first
      | ((go_at_call 12; (with_reducible refine (HNW.out _).mono ?_); rintro e w1 ⟨rfl, hl1, hb1⟩ <;> (have lw1 := hl1.lt; have HL1 := hid (LgB.mk (w := w) (B := w1.heap.size) (x := [⟨1, 2⟩]) (l := newF 1) (v := .slice none 0 0) (g := w.heap.size) (W := w1.alloc (Obj.cells #[Value.int IntKind.i64 1, Value.int IntKind.i64 2] 23)) (hl1.up (by (repeat (first | (with_reducible exact Up.refl _) | (with_reducible assumption) | (with_reducible refine Up.alloc ?_ _) | (with_reducible refine Up.drew ?_) | ((with_reducible refine Up.set ?_ ?_ _); rotate_left; focus (first | omega | (simp; done) | (simp; omega))) | (with_reducible refine Up.drewN ?_ _) | (with_reducible refine Up.call ?_ (by with_reducible assumption)))))) (fun e => by cases e) (by omega) (by simp) (rds1 (by go_simp) (by go_simp)) (by (repeat (first | (with_reducible exact Up.refl _) | (with_reducible assumption) | (with_reducible refine Up.alloc ?_ _) | (with_reducible refine Up.drew ?_) | ((with_reducible refine Up.set ?_ ?_ _); rotate_left; focus (first | omega | (simp; done) | (simp; omega))) | (with_reducible refine Up.drewN ?_ _) | (with_reducible refine Up.call ?_ (by with_reducible assumption))))) (Nat.le_refl _)); clear hl1)) <;> (have hle := Up.le hb1; (try simp only [World.size_alloc, World.size_setCell, World.size_drew, World.heap_drewN] at hle); clear hle))
      | ((go_at_call 13; (with_reducible refine (putX_B HL1.out P1.out HP.out).mono ?_); rintro e w2 ⟨v2, rfl, hL2⟩ <;> (have hb2 := hL2.since; have lg2 := hL2.log.lt; have HL2 := hid hL2; clear hL2)) <;> (have hle := Up.le hb2; (try simp only [World.size_alloc, World.size_setCell, World.size_drew, World.heap_drewN] at hle); clear hle))
      | ((go_at_call 18; (with_reducible refine (sync_B (HL2.out.up (by (repeat (first | (with_reducible exact Up.refl _) | (with_reducible assumption) | (with_reducible refine Up.alloc ?_ _) | (with_reducible refine Up.drew ?_) | ((with_reducible refine Up.set ?_ ?_ _); rotate_left; focus (first | omega | (simp; done) | (simp; omega))) | (with_reducible refine Up.drewN ?_ _) | (with_reducible refine Up.call ?_ (by with_reducible assumption)))))) P2.out).mono ?_); rintro e w3 ⟨v3, rfl, hL3⟩ <;> (have hb3 := hL3.since; have lg3 := hL3.log.lt; have HL3 := hid hL3; clear hL3)) <;> (have hle := Up.le hb3; (try simp only [World.size_alloc, World.size_setCell, World.size_drew, World.heap_drewN] at hle); clear hle))
      | ((go_at_call 13; (with_reducible refine (putOne_B (lo := 5) (hi := 9) (HL3.out.up (by (repeat (first | (with_reducible exact Up.refl _) | (with_reducible assumption) | (with_reducible refine Up.alloc ?_ _) | (with_reducible refine Up.drew ?_) | ((with_reducible refine Up.set ?_ ?_ _); rotate_left; focus (first | omega | (simp; done) | (simp; omega))) | (with_reducible refine Up.drewN ?_ _) | (with_reducible refine Up.call ?_ (by with_reducible assumption)))))) P3.out (by go_simp) (by go_simp) (by omega) HP.out).mono ?_); rintro e w4 ⟨v4, rfl, hL4⟩ <;> (have hb4 := hL4.since; have lg4 := hL4.log.lt; have HL4 := hid hL4; clear hL4)) <;> (have hle := Up.le hb4; (try simp only [World.size_alloc, World.size_setCell, World.size_drew, World.heap_drewN] at hle); clear hle))
      | ((go_at_call 14; (with_reducible refine (hull_any w.heap.size v4 l3 _ (HL4.out.log.up (by (repeat (first | (with_reducible exact Up.refl _) | (with_reducible assumption) | (with_reducible refine Up.alloc ?_ _) | (with_reducible refine Up.drew ?_) | ((with_reducible refine Up.set ?_ ?_ _); rotate_left; focus (first | omega | (simp; done) | (simp; omega))) | (with_reducible refine Up.drewN ?_ _) | (with_reducible refine Up.call ?_ (by with_reducible assumption))))))).mono ?_); rintro e w5 ⟨x5, v5, hx5, rfl, hv5, hb5⟩ <;> (rw [P4.out] at hx5; subst hx5; obtain ⟨A5, c5, rfl, hr5, hc5, hn5⟩ := boxR_ok hv5; obtain ⟨b5, o5, rfl, lb5, -, hk5⟩ := single_at hr5; have hn5' := hn5 b5 o5 rfl; have hu5 := hb5; clear hv5 hr5 hn5)) <;> (have hle := Up.le hb5; (try simp only [World.size_alloc, World.size_setCell, World.size_drew, World.heap_drewN] at hle); clear hle))
      | ((go_at_call 19; (with_reducible refine (crash_any w.heap.size v4 l3 0 _ (HL4.out.log.up (by (repeat (first | (with_reducible exact Up.refl _) | (with_reducible assumption) | (with_reducible refine Up.alloc ?_ _) | (with_reducible refine Up.drew ?_) | ((with_reducible refine Up.set ?_ ?_ _); rotate_left; focus (first | omega | (simp; done) | (simp; omega))) | (with_reducible refine Up.drewN ?_ _) | (with_reducible refine Up.call ?_ (by with_reducible assumption)))))) HI0.out).mono ?_); rintro e w6 ⟨v6, rfl, hl6, hm6, hv6⟩ <;> (have hL6 := (HL4.out.up hu5).on hl6 hm6 hv6; have hb6 := hL6.since; (have hk6 : w6.cell? ⟨b5, o5 + 1, none⟩ = some (.int .i64 9) := (World.cell?_of_block (a := ⟨b5, o5 + 1, none⟩) (hm6.block b5 lb5 (by omega) (fun e => by have := (HL4.out.log.gt b5 e).2; omega))).trans hk5); have lb6 := Nat.lt_of_lt_of_le lb5 hm6.size; have HL6 := hid hL6; clear hL6 hl6 hm6 hv6)) <;> (have hle := Up.le hb6; (try simp only [World.size_alloc, World.size_setCell, World.size_drew, World.heap_drewN] at hle); clear hle))
      | ((go_at_call 16; (with_reducible refine (all_any w.heap.size v6 (crashF l3 0) _ (HL6.out.log.up (by (repeat (first | (with_reducible exact Up.refl _) | (with_reducible assumption) | (with_reducible refine Up.alloc ?_ _) | (with_reducible refine Up.drew ?_) | ((with_reducible refine Up.set ?_ ?_ _); rotate_left; focus (first | omega | (simp; done) | (simp; omega))) | (with_reducible refine Up.drewN ?_ _) | (with_reducible refine Up.call ?_ (by with_reducible assumption))))))).mono ?_); rintro e w7 ⟨x7, v7, hx7, rfl, hv7, hb7⟩ <;> (subst hx7; obtain ⟨A7, c7, rfl, hr7, hc7⟩ := hv7; rw [P5.out] at hr7 hc7 ⊢; obtain ⟨b7, o7, A71, c71, rfl, lb7, hk7, hr71⟩ := only_box hr7; obtain ⟨b71, o71, rfl, lb71, -, hk71⟩ := single_at hr71; obtain ⟨k7, k7'⟩ := bcell hb7; clear hr7 hr71)) <;> (have hle := Up.le hb7; (try simp only [World.size_alloc, World.size_setCell, World.size_drew, World.heap_drewN] at hle); clear hle))
      | ((go_at_call 15; (with_reducible refine (bytes_any w.heap.size v6 (crashF l3 0) _ (HL6.out.log.up (by (repeat (first | (with_reducible exact Up.refl _) | (with_reducible assumption) | (with_reducible refine Up.alloc ?_ _) | (with_reducible refine Up.drew ?_) | ((with_reducible refine Up.set ?_ ?_ _); rotate_left; focus (first | omega | (simp; done) | (simp; omega))) | (with_reducible refine Up.drewN ?_ _) | (with_reducible refine Up.call ?_ (by with_reducible assumption))))))).mono ?_); rintro e w8 ⟨x8, rfl, rfl, hb8⟩) <;> (have hle := Up.le hb8; (try simp only [World.size_alloc, World.size_setCell, World.size_drew, World.heap_drewN] at hle); clear hle))
      | ((go_at_call 21; (with_reducible refine (safe_any w.heap.size v6 (crashF l3 0) _ (HL6.out.log.up (by (repeat (first | (with_reducible exact Up.refl _) | (with_reducible assumption) | (with_reducible refine Up.alloc ?_ _) | (with_reducible refine Up.drew ?_) | ((with_reducible refine Up.set ?_ ?_ _); rotate_left; focus (first | omega | (simp; done) | (simp; omega))) | (with_reducible refine Up.drewN ?_ _) | (with_reducible refine Up.call ?_ (by with_reducible assumption))))))).mono ?_); rintro e w9 ⟨x9, rfl, rfl, hb9⟩ <;> (rw [P6.out])) <;> (have hle := Up.le hb9; (try simp only [World.size_alloc, World.size_setCell, World.size_drew, World.heap_drewN] at hle); clear hle)))
  go_cut [121] from 68 to 121 (fun t wx => t = .bool false ∧ Up w wx)
  case first =>
    as_aux_lemma =>
    go_wp2_with (first
                        | ((go_at_call 12; (with_reducible refine (HNW.out _).mono ?_); rintro e w1 ⟨rfl, hl1, hb1⟩ <;> (have lw1 := hl1.lt; have HL1 := hid (LgB.mk (w := w) (B := w1.heap.size) (x := [⟨1, 2⟩]) (l := newF 1) (v := .slice none 0 0) (g := w.heap.size) (W := w1.alloc (Obj.cells #[Value.int IntKind.i64 1, Value.int IntKind.i64 2] 23)) (hl1.up (by (repeat (first | (with_reducible exact Up.refl _) | (with_reducible assumption) | (with_reducible refine Up.alloc ?_ _) | (with_reducible refine Up.drew ?_) | ((with_reducible refine Up.set ?_ ?_ _); rotate_left; focus (first | omega | (simp; done) | (simp; omega))) | (with_reducible refine Up.drewN ?_ _) | (with_reducible refine Up.call ?_ (by with_reducible assumption)))))) (fun e => by cases e) (by omega) (by simp) (rds1 (by go_simp) (by go_simp)) (by (repeat (first | (with_reducible exact Up.refl _) | (with_reducible assumption) | (with_reducible refine Up.alloc ?_ _) | (with_reducible refine Up.drew ?_) | ((with_reducible refine Up.set ?_ ?_ _); rotate_left; focus (first | omega | (simp; done) | (simp; omega))) | (with_reducible refine Up.drewN ?_ _) | (with_reducible refine Up.call ?_ (by with_reducible assumption))))) (Nat.le_refl _)); clear hl1)) <;> (have hle := Up.le hb1; (try simp only [World.size_alloc, World.size_setCell, World.size_drew, World.heap_drewN] at hle); clear hle))
                        | ((go_at_call 13; (with_reducible refine (putX_B HL1.out P1.out HP.out).mono ?_); rintro e w2 ⟨v2, rfl, hL2⟩ <;> (have hb2 := hL2.since; have lg2 := hL2.log.lt; have HL2 := hid hL2; clear hL2)) <;> (have hle := Up.le hb2; (try simp only [World.size_alloc, World.size_setCell, World.size_drew, World.heap_drewN] at hle); clear hle))
                        | ((go_at_call 18; (with_reducible refine (sync_B (HL2.out.up (by (repeat (first | (with_reducible exact Up.refl _) | (with_reducible assumption) | (with_reducible refine Up.alloc ?_ _) | (with_reducible refine Up.drew ?_) | ((with_reducible refine Up.set ?_ ?_ _); rotate_left; focus (first | omega | (simp; done) | (simp; omega))) | (with_reducible refine Up.drewN ?_ _) | (with_reducible refine Up.call ?_ (by with_reducible assumption)))))) P2.out).mono ?_); rintro e w3 ⟨v3, rfl, hL3⟩ <;> (have hb3 := hL3.since; have lg3 := hL3.log.lt; have HL3 := hid hL3; clear hL3)) <;> (have hle := Up.le hb3; (try simp only [World.size_alloc, World.size_setCell, World.size_drew, World.heap_drewN] at hle); clear hle))
                        | ((go_at_call 13; (with_reducible refine (putOne_B (lo := 5) (hi := 9) (HL3.out.up (by (repeat (first | (with_reducible exact Up.refl _) | (with_reducible assumption) | (with_reducible refine Up.alloc ?_ _) | (with_reducible refine Up.drew ?_) | ((with_reducible refine Up.set ?_ ?_ _); rotate_left; focus (first | omega | (simp; done) | (simp; omega))) | (with_reducible refine Up.drewN ?_ _) | (with_reducible refine Up.call ?_ (by with_reducible assumption)))))) P3.out (by go_simp) (by go_simp) (by omega) HP.out).mono ?_); rintro e w4 ⟨v4, rfl, hL4⟩ <;> (have hb4 := hL4.since; have lg4 := hL4.log.lt; have HL4 := hid hL4; clear hL4)) <;> (have hle := Up.le hb4; (try simp only [World.size_alloc, World.size_setCell, World.size_drew, World.heap_drewN] at hle); clear hle))
                        | ((go_at_call 14; (with_reducible refine (hull_any w.heap.size v4 l3 _ (HL4.out.log.up (by (repeat (first | (with_reducible exact Up.refl _) | (with_reducible assumption) | (with_reducible refine Up.alloc ?_ _) | (with_reducible refine Up.drew ?_) | ((with_reducible refine Up.set ?_ ?_ _); rotate_left; focus (first | omega | (simp; done) | (simp; omega))) | (with_reducible refine Up.drewN ?_ _) | (with_reducible refine Up.call ?_ (by with_reducible assumption))))))).mono ?_); rintro e w5 ⟨x5, v5, hx5, rfl, hv5, hb5⟩ <;> (rw [P4.out] at hx5; subst hx5; obtain ⟨A5, c5, rfl, hr5, hc5, hn5⟩ := boxR_ok hv5; obtain ⟨b5, o5, rfl, lb5, -, hk5⟩ := single_at hr5; have hn5' := hn5 b5 o5 rfl; have hu5 := hb5; clear hv5 hr5 hn5)) <;> (have hle := Up.le hb5; (try simp only [World.size_alloc, World.size_setCell, World.size_drew, World.heap_drewN] at hle); clear hle))
                        | ((go_at_call 19; (with_reducible refine (crash_any w.heap.size v4 l3 0 _ (HL4.out.log.up (by (repeat (first | (with_reducible exact Up.refl _) | (with_reducible assumption) | (with_reducible refine Up.alloc ?_ _) | (with_reducible refine Up.drew ?_) | ((with_reducible refine Up.set ?_ ?_ _); rotate_left; focus (first | omega | (simp; done) | (simp; omega))) | (with_reducible refine Up.drewN ?_ _) | (with_reducible refine Up.call ?_ (by with_reducible assumption)))))) HI0.out).mono ?_); rintro e w6 ⟨v6, rfl, hl6, hm6, hv6⟩ <;> (have hL6 := (HL4.out.up hu5).on hl6 hm6 hv6; have hb6 := hL6.since; (have hk6 : w6.cell? ⟨b5, o5 + 1, none⟩ = some (.int .i64 9) := (World.cell?_of_block (a := ⟨b5, o5 + 1, none⟩) (hm6.block b5 lb5 (by omega) (fun e => by have := (HL4.out.log.gt b5 e).2; omega))).trans hk5); have lb6 := Nat.lt_of_lt_of_le lb5 hm6.size; have HL6 := hid hL6; clear hL6 hl6 hm6 hv6)) <;> (have hle := Up.le hb6; (try simp only [World.size_alloc, World.size_setCell, World.size_drew, World.heap_drewN] at hle); clear hle))
                        | ((go_at_call 16; (with_reducible refine (all_any w.heap.size v6 (crashF l3 0) _ (HL6.out.log.up (by (repeat (first | (with_reducible exact Up.refl _) | (with_reducible assumption) | (with_reducible refine Up.alloc ?_ _) | (with_reducible refine Up.drew ?_) | ((with_reducible refine Up.set ?_ ?_ _); rotate_left; focus (first | omega | (simp; done) | (simp; omega))) | (with_reducible refine Up.drewN ?_ _) | (with_reducible refine Up.call ?_ (by with_reducible assumption))))))).mono ?_); rintro e w7 ⟨x7, v7, hx7, rfl, hv7, hb7⟩ <;> (subst hx7; obtain ⟨A7, c7, rfl, hr7, hc7⟩ := hv7; rw [P5.out] at hr7 hc7 ⊢; obtain ⟨b7, o7, A71, c71, rfl, lb7, hk7, hr71⟩ := only_box hr7; obtain ⟨b71, o71, rfl, lb71, -, hk71⟩ := single_at hr71; obtain ⟨k7, k7'⟩ := bcell hb7; clear hr7 hr71)) <;> (have hle := Up.le hb7; (try simp only [World.size_alloc, World.size_setCell, World.size_drew, World.heap_drewN] at hle); clear hle))
                        | ((go_at_call 15; (with_reducible refine (bytes_any w.heap.size v6 (crashF l3 0) _ (HL6.out.log.up (by (repeat (first | (with_reducible exact Up.refl _) | (with_reducible assumption) | (with_reducible refine Up.alloc ?_ _) | (with_reducible refine Up.drew ?_) | ((with_reducible refine Up.set ?_ ?_ _); rotate_left; focus (first | omega | (simp; done) | (simp; omega))) | (with_reducible refine Up.drewN ?_ _) | (with_reducible refine Up.call ?_ (by with_reducible assumption))))))).mono ?_); rintro e w8 ⟨x8, rfl, rfl, hb8⟩) <;> (have hle := Up.le hb8; (try simp only [World.size_alloc, World.size_setCell, World.size_drew, World.heap_drewN] at hle); clear hle))
                        | ((go_at_call 21; (with_reducible refine (safe_any w.heap.size v6 (crashF l3 0) _ (HL6.out.log.up (by (repeat (first | (with_reducible exact Up.refl _) | (with_reducible assumption) | (with_reducible refine Up.alloc ?_ _) | (with_reducible refine Up.drew ?_) | ((with_reducible refine Up.set ?_ ?_ _); rotate_left; focus (first | omega | (simp; done) | (simp; omega))) | (with_reducible refine Up.drewN ?_ _) | (with_reducible refine Up.call ?_ (by with_reducible assumption))))))).mono ?_); rintro e w9 ⟨x9, rfl, rfl, hb9⟩ <;> (rw [P6.out])) <;> (have hle := Up.le hb9; (try simp only [World.size_alloc, World.size_setCell, World.size_drew, World.heap_drewN] at hle); clear hle)))
    go_meet
    exact ⟨by first | rfl | (simp; done), by (repeat (first | (with_reducible exact Up.refl _) | (with_reducible assumption) | (with_reducible refine Up.alloc ?_ _) | (with_reducible refine Up.drew ?_) | ((with_reducible refine Up.set ?_ ?_ _); rotate_left; focus (first | omega | (simp; done) | (simp; omega))) | (with_reducible refine Up.drewN ?_ _) | (with_reducible refine Up.call ?_ (by with_reducible assumption))))⟩
  case rest =>
    obtain ⟨rfl, hw9⟩ := hcut
    obtain ⟨wp, hwp⟩ : ∃ x, x = wc := ⟨_, rfl⟩
    subst hwp
    go_upto_region 13 with fail
    go_cut [127] from 122 to 127 (fun t wx => t = .bool true ∧ wx = wp)
    case first =>
      as_aux_lemma =>
      rcases HOR.out with d1 | ⟨d1, d2⟩
      all_goals
        go_wp2
        go_meet
        exact ⟨rfl, rfl⟩
    case rest =>
      obtain ⟨rfl, hw⟩ := hcut
      have hw2 := hw.symm
      subst hw2
      go_wp2_with (first
                        | ((go_at_call 12; (with_reducible refine (HNB.out _).mono ?_); rintro e w10 ⟨rfl, hw10⟩ <;> (have hb10 : Up wp w10 := (by rw [hw10]; exact Up.refl _))) <;> (have hle := Up.le hb10; (try simp only [World.size_alloc, World.size_setCell, World.size_drew, World.heap_drewN] at hle); clear hle))
                        | ((go_at_call 10; (with_reducible refine (serr_self 1 _ (HD.out.up (by (repeat (first | (with_reducible exact Up.refl _) | (with_reducible assumption) | (with_reducible refine Up.alloc ?_ _) | (with_reducible refine Up.drew ?_) | ((with_reducible refine Up.set ?_ ?_ _); rotate_left; focus (first | omega | (simp; done) | (simp; omega))) | (with_reducible refine Up.drewN ?_ _) | (with_reducible refine Up.call ?_ (by with_reducible assumption))))))).mono ?_); rintro e w11 ⟨rfl, hb11⟩) <;> (have hle := Up.le hb11; (try simp only [World.size_alloc, World.size_setCell, World.size_drew, World.heap_drewN] at hle); clear hle)))
      go_ret
      exact LawEnd.mk (by first | rfl | (simp; done)) (by (repeat (first | (with_reducible exact Up.refl _) | (with_reducible assumption) | (with_reducible refine Up.alloc ?_ _) | (with_reducible refine Up.drew ?_) | ((with_reducible refine Up.set ?_ ?_ _); rotate_left; focus (first | omega | (simp; done) | (simp; omega))) | (with_reducible refine Up.drewN ?_ _) | (with_reducible refine Up.call ?_ (by with_reducible assumption)))))
set_option maxRecDepth 100000 in
set_option maxHeartbeats 16000000 in
theorem logKeeps_in (s : Int) (Al : Option Addr) (ll : List (List Sp)) (cl : Nat) (As : Option Addr) (ss : List Int) (cs : Nat) (Af : Option Addr) (ff : List Int) (cf : Nat) (Ak : Option Addr) (kk : List Int) (ck : Nat) (w : World)
    (hl : LBB w Al ll cl) (hss : LI w As ss cs) (hff : LI w Af ff cf) (hkk : LI w Ak kk ck) (hd : Door4 w) (hs1 : 1 ≤ s) (hs3 : s ≤ 3) :
    Calls Tryd.prog 6 #[.int .i64 s, .slice Al ll.length cl, .slice As ss.length cs, .slice Af ff.length cf, .slice Ak kk.length ck] w (LawEnd w) := by
  obtain ⟨i0, hi0, hz0, hz1, hz2⟩ := info_parts Tryd.infoBox
  obtain ⟨j0, hj0, hy0, hy1, hy2⟩ := info_parts Tryd.infoInt
  have HD := hid hd.1; have HP := hid hd.2
  have HNW := hid (fun W => new_good 1 W (by omega) (by omega))
  obtain ⟨l1, l2, l3, p1, p2, p3, p4, p5, p6⟩ := fixed_log
  have P1 := hid p1; have P2 := hid p2; have P3 := hid p3; have P4 := hid p4; have P5 := hid p5; have P6 := hid p6
  have HI0 := hid (show I64 0 from ⟨by omega, by omega⟩)
  have HLL := hid hl; have HSS := hid hss; have HFF := hid hff; have HKK := hid hkk
  have HS1 := hid hs1; have HS3 := hid hs3
  have d1 : decide (s < 1) = false := decide_eq_false (by omega)
  have d2 : decide (3 < s) = false := decide_eq_false (by omega)
  clear hl hss hff hkk hd hs1 hs3 p1 p2 p3 p4 p5 p6
  go_enter Tryd.func6, Tryd.ntmps6
  go_upto_region 10 with (first
      | ((go_at_call 12; (with_reducible refine (HNW.out _).mono ?_); rintro e w1 ⟨rfl, hl1, hb1⟩ <;> (have lw1 := hl1.lt; have HL1 := hid (LgB.mk (w := w) (B := w1.heap.size) (x := [⟨1, 2⟩]) (l := newF 1) (v := .slice none 0 0) (g := w.heap.size) (W := w1.alloc (Obj.cells #[Value.int IntKind.i64 1, Value.int IntKind.i64 2] 23)) (hl1.up (by (repeat (first | (with_reducible exact Up.refl _) | (with_reducible assumption) | (with_reducible refine Up.alloc ?_ _) | (with_reducible refine Up.drew ?_) | ((with_reducible refine Up.set ?_ ?_ _); rotate_left; focus (first | omega | (simp; done) | (simp; omega))) | (with_reducible refine Up.drewN ?_ _) | (with_reducible refine Up.call ?_ (by with_reducible assumption)))))) (fun e => by cases e) (by omega) (by simp) (rds1 (by go_simp) (by go_simp)) (by (repeat (first | (with_reducible exact Up.refl _) | (with_reducible assumption) | (with_reducible refine Up.alloc ?_ _) | (with_reducible refine Up.drew ?_) | ((with_reducible refine Up.set ?_ ?_ _); rotate_left; focus (first | omega | (simp; done) | (simp; omega))) | (with_reducible refine Up.drewN ?_ _) | (with_reducible refine Up.call ?_ (by with_reducible assumption))))) (Nat.le_refl _)); clear hl1)) <;> (have hle := Up.le hb1; (try simp only [World.size_alloc, World.size_setCell, World.size_drew, World.heap_drewN] at hle); clear hle))
      | ((go_at_call 13; (with_reducible refine (putX_B HL1.out P1.out HP.out).mono ?_); rintro e w2 ⟨v2, rfl, hL2⟩ <;> (have hb2 := hL2.since; have lg2 := hL2.log.lt; have HL2 := hid hL2; clear hL2)) <;> (have hle := Up.le hb2; (try simp only [World.size_alloc, World.size_setCell, World.size_drew, World.heap_drewN] at hle); clear hle))
      | ((go_at_call 18; (with_reducible refine (sync_B (HL2.out.up (by (repeat (first | (with_reducible exact Up.refl _) | (with_reducible assumption) | (with_reducible refine Up.alloc ?_ _) | (with_reducible refine Up.drew ?_) | ((with_reducible refine Up.set ?_ ?_ _); rotate_left; focus (first | omega | (simp; done) | (simp; omega))) | (with_reducible refine Up.drewN ?_ _) | (with_reducible refine Up.call ?_ (by with_reducible assumption)))))) P2.out).mono ?_); rintro e w3 ⟨v3, rfl, hL3⟩ <;> (have hb3 := hL3.since; have lg3 := hL3.log.lt; have HL3 := hid hL3; clear hL3)) <;> (have hle := Up.le hb3; (try simp only [World.size_alloc, World.size_setCell, World.size_drew, World.heap_drewN] at hle); clear hle))
      | ((go_at_call 13; (with_reducible refine (putOne_B (lo := 5) (hi := 9) (HL3.out.up (by (repeat (first | (with_reducible exact Up.refl _) | (with_reducible assumption) | (with_reducible refine Up.alloc ?_ _) | (with_reducible refine Up.drew ?_) | ((with_reducible refine Up.set ?_ ?_ _); rotate_left; focus (first | omega | (simp; done) | (simp; omega))) | (with_reducible refine Up.drewN ?_ _) | (with_reducible refine Up.call ?_ (by with_reducible assumption)))))) P3.out (by go_simp) (by go_simp) (by omega) HP.out).mono ?_); rintro e w4 ⟨v4, rfl, hL4⟩ <;> (have hb4 := hL4.since; have lg4 := hL4.log.lt; have HL4 := hid hL4; clear hL4)) <;> (have hle := Up.le hb4; (try simp only [World.size_alloc, World.size_setCell, World.size_drew, World.heap_drewN] at hle); clear hle))
      | ((go_at_call 14; (with_reducible refine (hull_any w.heap.size v4 l3 _ (HL4.out.log.up (by (repeat (first | (with_reducible exact Up.refl _) | (with_reducible assumption) | (with_reducible refine Up.alloc ?_ _) | (with_reducible refine Up.drew ?_) | ((with_reducible refine Up.set ?_ ?_ _); rotate_left; focus (first | omega | (simp; done) | (simp; omega))) | (with_reducible refine Up.drewN ?_ _) | (with_reducible refine Up.call ?_ (by with_reducible assumption))))))).mono ?_); rintro e w5 ⟨x5, v5, hx5, rfl, hv5, hb5⟩ <;> (rw [P4.out] at hx5; subst hx5; obtain ⟨A5, c5, rfl, hr5, hc5, hn5⟩ := boxR_ok hv5; obtain ⟨b5, o5, rfl, lb5, -, hk5⟩ := single_at hr5; have hn5' := hn5 b5 o5 rfl; have hu5 := hb5; clear hv5 hr5 hn5)) <;> (have hle := Up.le hb5; (try simp only [World.size_alloc, World.size_setCell, World.size_drew, World.heap_drewN] at hle); clear hle))
      | ((go_at_call 19; (with_reducible refine (crash_any w.heap.size v4 l3 0 _ (HL4.out.log.up (by (repeat (first | (with_reducible exact Up.refl _) | (with_reducible assumption) | (with_reducible refine Up.alloc ?_ _) | (with_reducible refine Up.drew ?_) | ((with_reducible refine Up.set ?_ ?_ _); rotate_left; focus (first | omega | (simp; done) | (simp; omega))) | (with_reducible refine Up.drewN ?_ _) | (with_reducible refine Up.call ?_ (by with_reducible assumption)))))) HI0.out).mono ?_); rintro e w6 ⟨v6, rfl, hl6, hm6, hv6⟩ <;> (have hL6 := (HL4.out.up hu5).on hl6 hm6 hv6; have hb6 := hL6.since; (have hk6 : w6.cell? ⟨b5, o5 + 1, none⟩ = some (.int .i64 9) := (World.cell?_of_block (a := ⟨b5, o5 + 1, none⟩) (hm6.block b5 lb5 (by omega) (fun e => by have := (HL4.out.log.gt b5 e).2; omega))).trans hk5); have lb6 := Nat.lt_of_lt_of_le lb5 hm6.size; have HL6 := hid hL6; clear hL6 hl6 hm6 hv6)) <;> (have hle := Up.le hb6; (try simp only [World.size_alloc, World.size_setCell, World.size_drew, World.heap_drewN] at hle); clear hle))
      | ((go_at_call 16; (with_reducible refine (all_any w.heap.size v6 (crashF l3 0) _ (HL6.out.log.up (by (repeat (first | (with_reducible exact Up.refl _) | (with_reducible assumption) | (with_reducible refine Up.alloc ?_ _) | (with_reducible refine Up.drew ?_) | ((with_reducible refine Up.set ?_ ?_ _); rotate_left; focus (first | omega | (simp; done) | (simp; omega))) | (with_reducible refine Up.drewN ?_ _) | (with_reducible refine Up.call ?_ (by with_reducible assumption))))))).mono ?_); rintro e w7 ⟨x7, v7, hx7, rfl, hv7, hb7⟩ <;> (subst hx7; obtain ⟨A7, c7, rfl, hr7, hc7⟩ := hv7; rw [P5.out] at hr7 hc7 ⊢; obtain ⟨b7, o7, A71, c71, rfl, lb7, hk7, hr71⟩ := only_box hr7; obtain ⟨b71, o71, rfl, lb71, -, hk71⟩ := single_at hr71; obtain ⟨k7, k7'⟩ := bcell hb7; clear hr7 hr71)) <;> (have hle := Up.le hb7; (try simp only [World.size_alloc, World.size_setCell, World.size_drew, World.heap_drewN] at hle); clear hle))
      | ((go_at_call 15; (with_reducible refine (bytes_any w.heap.size v6 (crashF l3 0) _ (HL6.out.log.up (by (repeat (first | (with_reducible exact Up.refl _) | (with_reducible assumption) | (with_reducible refine Up.alloc ?_ _) | (with_reducible refine Up.drew ?_) | ((with_reducible refine Up.set ?_ ?_ _); rotate_left; focus (first | omega | (simp; done) | (simp; omega))) | (with_reducible refine Up.drewN ?_ _) | (with_reducible refine Up.call ?_ (by with_reducible assumption))))))).mono ?_); rintro e w8 ⟨x8, rfl, rfl, hb8⟩) <;> (have hle := Up.le hb8; (try simp only [World.size_alloc, World.size_setCell, World.size_drew, World.heap_drewN] at hle); clear hle))
      | ((go_at_call 21; (with_reducible refine (safe_any w.heap.size v6 (crashF l3 0) _ (HL6.out.log.up (by (repeat (first | (with_reducible exact Up.refl _) | (with_reducible assumption) | (with_reducible refine Up.alloc ?_ _) | (with_reducible refine Up.drew ?_) | ((with_reducible refine Up.set ?_ ?_ _); rotate_left; focus (first | omega | (simp; done) | (simp; omega))) | (with_reducible refine Up.drewN ?_ _) | (with_reducible refine Up.call ?_ (by with_reducible assumption))))))).mono ?_); rintro e w9 ⟨x9, rfl, rfl, hb9⟩ <;> (rw [P6.out])) <;> (have hle := Up.le hb9; (try simp only [World.size_alloc, World.size_setCell, World.size_drew, World.heap_drewN] at hle); clear hle)))
  go_cut [121] from 68 to 121 (fun t wx => t = .bool false ∧ Up w wx)
  case first =>
    as_aux_lemma =>
    go_wp2_with (first
                        | ((go_at_call 12; (with_reducible refine (HNW.out _).mono ?_); rintro e w1 ⟨rfl, hl1, hb1⟩ <;> (have lw1 := hl1.lt; have HL1 := hid (LgB.mk (w := w) (B := w1.heap.size) (x := [⟨1, 2⟩]) (l := newF 1) (v := .slice none 0 0) (g := w.heap.size) (W := w1.alloc (Obj.cells #[Value.int IntKind.i64 1, Value.int IntKind.i64 2] 23)) (hl1.up (by (repeat (first | (with_reducible exact Up.refl _) | (with_reducible assumption) | (with_reducible refine Up.alloc ?_ _) | (with_reducible refine Up.drew ?_) | ((with_reducible refine Up.set ?_ ?_ _); rotate_left; focus (first | omega | (simp; done) | (simp; omega))) | (with_reducible refine Up.drewN ?_ _) | (with_reducible refine Up.call ?_ (by with_reducible assumption)))))) (fun e => by cases e) (by omega) (by simp) (rds1 (by go_simp) (by go_simp)) (by (repeat (first | (with_reducible exact Up.refl _) | (with_reducible assumption) | (with_reducible refine Up.alloc ?_ _) | (with_reducible refine Up.drew ?_) | ((with_reducible refine Up.set ?_ ?_ _); rotate_left; focus (first | omega | (simp; done) | (simp; omega))) | (with_reducible refine Up.drewN ?_ _) | (with_reducible refine Up.call ?_ (by with_reducible assumption))))) (Nat.le_refl _)); clear hl1)) <;> (have hle := Up.le hb1; (try simp only [World.size_alloc, World.size_setCell, World.size_drew, World.heap_drewN] at hle); clear hle))
                        | ((go_at_call 13; (with_reducible refine (putX_B HL1.out P1.out HP.out).mono ?_); rintro e w2 ⟨v2, rfl, hL2⟩ <;> (have hb2 := hL2.since; have lg2 := hL2.log.lt; have HL2 := hid hL2; clear hL2)) <;> (have hle := Up.le hb2; (try simp only [World.size_alloc, World.size_setCell, World.size_drew, World.heap_drewN] at hle); clear hle))
                        | ((go_at_call 18; (with_reducible refine (sync_B (HL2.out.up (by (repeat (first | (with_reducible exact Up.refl _) | (with_reducible assumption) | (with_reducible refine Up.alloc ?_ _) | (with_reducible refine Up.drew ?_) | ((with_reducible refine Up.set ?_ ?_ _); rotate_left; focus (first | omega | (simp; done) | (simp; omega))) | (with_reducible refine Up.drewN ?_ _) | (with_reducible refine Up.call ?_ (by with_reducible assumption)))))) P2.out).mono ?_); rintro e w3 ⟨v3, rfl, hL3⟩ <;> (have hb3 := hL3.since; have lg3 := hL3.log.lt; have HL3 := hid hL3; clear hL3)) <;> (have hle := Up.le hb3; (try simp only [World.size_alloc, World.size_setCell, World.size_drew, World.heap_drewN] at hle); clear hle))
                        | ((go_at_call 13; (with_reducible refine (putOne_B (lo := 5) (hi := 9) (HL3.out.up (by (repeat (first | (with_reducible exact Up.refl _) | (with_reducible assumption) | (with_reducible refine Up.alloc ?_ _) | (with_reducible refine Up.drew ?_) | ((with_reducible refine Up.set ?_ ?_ _); rotate_left; focus (first | omega | (simp; done) | (simp; omega))) | (with_reducible refine Up.drewN ?_ _) | (with_reducible refine Up.call ?_ (by with_reducible assumption)))))) P3.out (by go_simp) (by go_simp) (by omega) HP.out).mono ?_); rintro e w4 ⟨v4, rfl, hL4⟩ <;> (have hb4 := hL4.since; have lg4 := hL4.log.lt; have HL4 := hid hL4; clear hL4)) <;> (have hle := Up.le hb4; (try simp only [World.size_alloc, World.size_setCell, World.size_drew, World.heap_drewN] at hle); clear hle))
                        | ((go_at_call 14; (with_reducible refine (hull_any w.heap.size v4 l3 _ (HL4.out.log.up (by (repeat (first | (with_reducible exact Up.refl _) | (with_reducible assumption) | (with_reducible refine Up.alloc ?_ _) | (with_reducible refine Up.drew ?_) | ((with_reducible refine Up.set ?_ ?_ _); rotate_left; focus (first | omega | (simp; done) | (simp; omega))) | (with_reducible refine Up.drewN ?_ _) | (with_reducible refine Up.call ?_ (by with_reducible assumption))))))).mono ?_); rintro e w5 ⟨x5, v5, hx5, rfl, hv5, hb5⟩ <;> (rw [P4.out] at hx5; subst hx5; obtain ⟨A5, c5, rfl, hr5, hc5, hn5⟩ := boxR_ok hv5; obtain ⟨b5, o5, rfl, lb5, -, hk5⟩ := single_at hr5; have hn5' := hn5 b5 o5 rfl; have hu5 := hb5; clear hv5 hr5 hn5)) <;> (have hle := Up.le hb5; (try simp only [World.size_alloc, World.size_setCell, World.size_drew, World.heap_drewN] at hle); clear hle))
                        | ((go_at_call 19; (with_reducible refine (crash_any w.heap.size v4 l3 0 _ (HL4.out.log.up (by (repeat (first | (with_reducible exact Up.refl _) | (with_reducible assumption) | (with_reducible refine Up.alloc ?_ _) | (with_reducible refine Up.drew ?_) | ((with_reducible refine Up.set ?_ ?_ _); rotate_left; focus (first | omega | (simp; done) | (simp; omega))) | (with_reducible refine Up.drewN ?_ _) | (with_reducible refine Up.call ?_ (by with_reducible assumption)))))) HI0.out).mono ?_); rintro e w6 ⟨v6, rfl, hl6, hm6, hv6⟩ <;> (have hL6 := (HL4.out.up hu5).on hl6 hm6 hv6; have hb6 := hL6.since; (have hk6 : w6.cell? ⟨b5, o5 + 1, none⟩ = some (.int .i64 9) := (World.cell?_of_block (a := ⟨b5, o5 + 1, none⟩) (hm6.block b5 lb5 (by omega) (fun e => by have := (HL4.out.log.gt b5 e).2; omega))).trans hk5); have lb6 := Nat.lt_of_lt_of_le lb5 hm6.size; have HL6 := hid hL6; clear hL6 hl6 hm6 hv6)) <;> (have hle := Up.le hb6; (try simp only [World.size_alloc, World.size_setCell, World.size_drew, World.heap_drewN] at hle); clear hle))
                        | ((go_at_call 16; (with_reducible refine (all_any w.heap.size v6 (crashF l3 0) _ (HL6.out.log.up (by (repeat (first | (with_reducible exact Up.refl _) | (with_reducible assumption) | (with_reducible refine Up.alloc ?_ _) | (with_reducible refine Up.drew ?_) | ((with_reducible refine Up.set ?_ ?_ _); rotate_left; focus (first | omega | (simp; done) | (simp; omega))) | (with_reducible refine Up.drewN ?_ _) | (with_reducible refine Up.call ?_ (by with_reducible assumption))))))).mono ?_); rintro e w7 ⟨x7, v7, hx7, rfl, hv7, hb7⟩ <;> (subst hx7; obtain ⟨A7, c7, rfl, hr7, hc7⟩ := hv7; rw [P5.out] at hr7 hc7 ⊢; obtain ⟨b7, o7, A71, c71, rfl, lb7, hk7, hr71⟩ := only_box hr7; obtain ⟨b71, o71, rfl, lb71, -, hk71⟩ := single_at hr71; obtain ⟨k7, k7'⟩ := bcell hb7; clear hr7 hr71)) <;> (have hle := Up.le hb7; (try simp only [World.size_alloc, World.size_setCell, World.size_drew, World.heap_drewN] at hle); clear hle))
                        | ((go_at_call 15; (with_reducible refine (bytes_any w.heap.size v6 (crashF l3 0) _ (HL6.out.log.up (by (repeat (first | (with_reducible exact Up.refl _) | (with_reducible assumption) | (with_reducible refine Up.alloc ?_ _) | (with_reducible refine Up.drew ?_) | ((with_reducible refine Up.set ?_ ?_ _); rotate_left; focus (first | omega | (simp; done) | (simp; omega))) | (with_reducible refine Up.drewN ?_ _) | (with_reducible refine Up.call ?_ (by with_reducible assumption))))))).mono ?_); rintro e w8 ⟨x8, rfl, rfl, hb8⟩) <;> (have hle := Up.le hb8; (try simp only [World.size_alloc, World.size_setCell, World.size_drew, World.heap_drewN] at hle); clear hle))
                        | ((go_at_call 21; (with_reducible refine (safe_any w.heap.size v6 (crashF l3 0) _ (HL6.out.log.up (by (repeat (first | (with_reducible exact Up.refl _) | (with_reducible assumption) | (with_reducible refine Up.alloc ?_ _) | (with_reducible refine Up.drew ?_) | ((with_reducible refine Up.set ?_ ?_ _); rotate_left; focus (first | omega | (simp; done) | (simp; omega))) | (with_reducible refine Up.drewN ?_ _) | (with_reducible refine Up.call ?_ (by with_reducible assumption))))))).mono ?_); rintro e w9 ⟨x9, rfl, rfl, hb9⟩ <;> (rw [P6.out])) <;> (have hle := Up.le hb9; (try simp only [World.size_alloc, World.size_setCell, World.size_drew, World.heap_drewN] at hle); clear hle)))
    go_meet
    exact ⟨by first | rfl | (simp; done), by (repeat (first | (with_reducible exact Up.refl _) | (with_reducible assumption) | (with_reducible refine Up.alloc ?_ _) | (with_reducible refine Up.drew ?_) | ((with_reducible refine Up.set ?_ ?_ _); rotate_left; focus (first | omega | (simp; done) | (simp; omega))) | (with_reducible refine Up.drewN ?_ _) | (with_reducible refine Up.call ?_ (by with_reducible assumption))))⟩
  case rest =>
  obtain ⟨rfl, hw9⟩ := hcut
  obtain ⟨wp9, hwp9⟩ : ∃ x, x = wc := ⟨_, rfl⟩
  subst hwp9
  clear HNW P1 P2 P3 P4 P5 P6
  go_wp2_with (first
                        | ((go_at_call 12; (with_reducible refine (new_goodG s _ HS1.out HS3.out).mono ?_); rintro e w10 ⟨g, rfl, hl10, hb10, hg10⟩ <;> (have hgw := Nat.le_trans (Up.le hw9) hg10; have HL10 := hid hl10; clear hl10)) <;> (have hle := Up.le hb10; (try simp only [World.size_alloc, World.size_setCell, World.size_drew, World.heap_drewN] at hle); clear hle))
                        | ((go_at_call 10; (with_reducible refine (serr_nil0 _ (HD.out.up (by (repeat (first | (with_reducible exact Up.refl _) | (with_reducible assumption) | (with_reducible refine Up.alloc ?_ _) | (with_reducible refine Up.drew ?_) | ((with_reducible refine Up.set ?_ ?_ _); rotate_left; focus (first | omega | (simp; done) | (simp; omega))) | (with_reducible refine Up.drewN ?_ _) | (with_reducible refine Up.call ?_ (by with_reducible assumption))))))).mono ?_); rintro e w11 ⟨rfl, hb11⟩ <;> (have hu11 : Up w w11 := (by (repeat (first | (with_reducible exact Up.refl _) | (with_reducible assumption) | (with_reducible refine Up.alloc ?_ _) | (with_reducible refine Up.drew ?_) | ((with_reducible refine Up.set ?_ ?_ _); rotate_left; focus (first | omega | (simp; done) | (simp; omega))) | (with_reducible refine Up.drewN ?_ _) | (with_reducible refine Up.call ?_ (by with_reducible assumption))))); have Hst := hid (KS.start (HL10.out.up hb11) hu11 hgw 3 rfl))) <;> (have hle := Up.le hb11; (try simp only [World.size_alloc, World.size_setCell, World.size_drew, World.heap_drewN] at hle); clear hle)))
  have hu12 : Up w (w11.alloc (Obj.cells #[Value.int IntKind.i64 0] 3)) := (by (repeat (first | (with_reducible exact Up.refl _) | (with_reducible assumption) | (with_reducible refine Up.alloc ?_ _) | (with_reducible refine Up.drew ?_) | ((with_reducible refine Up.set ?_ ?_ _); rotate_left; focus (first | omega | (simp; done) | (simp; omega))) | (with_reducible refine Up.drewN ?_ _) | (with_reducible refine Up.call ?_ (by with_reducible assumption)))))
  have HHW := hid hgw
  clear hgw HL10 d1 d2
  go_loopw [22, 23, 24, 25, 26, 27, 28, 29, 30, 31, 32, 33, 34, 35, 36, 37, 38, 39, 40, 41, 42] (fun _ vd vm a r _ _ _ _ _ _ _ _ _ _ _ _ _ _ _ _ wr => ∃ (ai ri : Nat) (Q : Nat → Prop) (v : Value) (l : Lg) (L : List (List Sp)) (R : List (List UInt8)), a = .int .i64 ai ∧ r = .int .i64 ri ∧ ai ≤ ll.length ∧ ri ≤ 4 ∧ ri ≤ ff.length + 1 ∧ Hid (Beside s l L R) ∧ Hid (KS Q w wr g v vd vm l L R) ∧ Up w wr) (fun _ _ _ _ r _ _ _ _ _ _ _ _ _ _ _ _ _ _ _ _ _ => 5 - (intOf r).toNat)
  case atStart =>
    obtain ⟨Q, hst⟩ := Hst.out
    exact ⟨0, 0, Q, _, newF s, [], [], rfl, rfl, by omega, by omega, by omega, ⟨rfl, rfl, rfl⟩, hst, hu12⟩
  case round =>
    obtain ⟨ai, ri, Q, v, l, L, R, rfl, rfl, hai, hri, hrf, HB, HK, hU⟩ := hrel
    clear Hst hu12
    have hle := hU.le
    have hlm := HLL.out.max; have hlc := HLL.out.cap; have hfm := HFF.out.max; have hfc := HFF.out.cap
    have hr0 : (0 : Int) ≤ (ri : Int) := by omega
    by_cases hA : ri ≤ ff.length
    · by_cases hB : ri < 4
      · have hB' : (ri : Int) < 4 := by omega
        have hA' : decide ((ri : Int) ≤ (ff.length : Int)) = true := decide_eq_true (by omega)
        have HA := hid hA; have HRI := hid hB
        go_upto_if 157 with fail
        go_cut [] from 154 to 163 (fun wx => ∃ (v' : Value) (l' : Lg), Hid (Beside s l' L R) ∧ Hid (KS Q w wx g v' u23 u24 l' L R) ∧ Up w wx)
        case first =>
          as_aux_lemma =>
          by_cases hC : ri < ff.length
          · have hC' : decide ((ri : Int) < (ff.length : Int)) = true := decide_eq_true (by omega)
            obtain ⟨bf, of, rfl, lbf, ccf⟩ := HFF.out.rd.at (by omega)
            have qf := ((bcell hU).1 _ _ lbf).trans (ccf ri hC)
            have hfn : I64 (ff[ri]?.getD 0) := HFF.out.wf _ (by rw [List.getElem?_eq_getElem hC]; exact List.getElem_mem hC)
            generalize ff[ri]?.getD 0 = n at *
            have HN := hid hfn
            clear ccf hfn
            go_wp2_with (first
                        | ((go_at_call 17; (with_reducible refine (fail_K n (HK.out.up (by (repeat (first | (with_reducible exact Up.refl _) | (with_reducible assumption) | (with_reducible refine Up.alloc ?_ _) | (with_reducible refine Up.drew ?_) | ((with_reducible refine Up.set ?_ ?_ _); rotate_left; focus (first | omega | (simp; done) | (simp; omega))) | (with_reducible refine Up.drewN ?_ _) | (with_reducible refine Up.call ?_ (by with_reducible assumption)))))) HN.out).mono ?_); rintro e w12 ⟨v12, rfl, hK12⟩ <;> (have hb12 := hK12.since; have HK12 := hid hK12; clear hK12)) <;> (have hle := Up.le hb12; (try simp only [World.size_alloc, World.size_setCell, World.size_drew, World.heap_drewN] at hle); clear hle)))
            go_meet
            exact ⟨v12, failF l n, ⟨HB.out.all, HB.out.recs, HB.out.sides⟩, HK12.out, hb12⟩
          · have hC' : decide ((ri : Int) < (ff.length : Int)) = false := decide_eq_false (by omega)
            go_wp2_with fail
            go_meet
            exact ⟨v, l, HB.out, HK.out, hU⟩
        case rest =>
          clear HB HK hU hle
          obtain ⟨v, l, HB, HK, hU⟩ := hcut
          go_upto_block 2 with fail
          go_cut [23, 24, 25] from 164 to 260 (fun vd vm a wx => ∃ (ai : Nat) (Q : Nat → Prop) (v : Value) (l : Lg) (L : List (List Sp)) (R : List (List UInt8)), a = .int .i64 ai ∧ ai ≤ ll.length ∧ Hid (Beside s l L R) ∧ Hid (KS Q w wx g v vd vm l L R) ∧ Up w wx)
          case first =>
            as_aux_lemma =>
            go_wp2_with fail
            obtain ⟨wo, hwo⟩ : ∃ x, x = wr := ⟨_, rfl⟩
            subst hwo
            go_loopw [22, 23, 24, 25, 27, 28, 29, 30, 31] (fun _ vd vm a k _ _ _ _ ws => ∃ (ai ki : Nat) (Q : Nat → Prop) (v : Value) (l : Lg) (L : List (List Sp)) (R : List (List UInt8)), a = .int .i64 ai ∧ k = .int .i64 ki ∧ ai ≤ ll.length ∧ ki ≤ 12 ∧ Hid (Beside s l L R) ∧ Hid (KS Q w ws g v vd vm l L R) ∧ Up w ws) (fun _ _ _ _ k _ _ _ _ _ => 12 - (intOf k).toNat)
            case atStart => exact ⟨ai, 0, Q, v, l, L, R, rfl, rfl, hai, by omega, HB.out, HK.out, hU⟩
            case round =>
              clear HB HK hU hai
              obtain ⟨ai, ki, Q, v, l, L, R, rfl, rfl, hai, hki, HB, HK, hU⟩ := hrel
              obtain ⟨⟨Ad, cd, rfl, hcd⟩, ⟨Am, cm, rfl, hcm⟩⟩ := HK.out.shape
              have hle := hU.le
              have ha0 : (0 : Int) ≤ (ai : Int) := by omega
              have hk0 : (0 : Int) ≤ (ki : Int) := by omega
              have hL20 := HK.out.log.ok.few
              have hRL := HK.out.log.ok.recs
              rw [HB.out.all] at hL20 hRL
              rw [HB.out.recs] at hRL
              have HRL := hid hRL
              clear hRL
              obtain ⟨tb, htb⟩ : ∃ tb, decide (ki < 12 ∧ ai < ll.length) = tb := ⟨_, rfl⟩
              have HTB := hid htb
              clear htb
              go_upto_region 28 with fail
              go_cut [171] (fun t wx => t = .bool tb ∧ wx = wr)
              case first =>
                as_aux_lemma =>
                by_cases h1 : ki < 12
                · have h1' : (ki : Int) < 12 := by omega
                  by_cases h2 : ai < ll.length
                  · have h2' : decide ((ai : Int) < (ll.length : Int)) = true := decide_eq_true (by omega)
                    go_wp2
                    go_meet
                    exact ⟨by rw [← HTB.out]; simp [h1, h2], rfl⟩
                  · have h2' : decide ((ai : Int) < (ll.length : Int)) = false := decide_eq_false (by omega)
                    go_wp2
                    go_meet
                    exact ⟨by rw [← HTB.out]; simp [h1, h2], rfl⟩
                · have h1' : ¬ (ki : Int) < 12 := by omega
                  go_wp2
                  go_meet
                  exact ⟨by rw [← HTB.out]; simp [h1], rfl⟩
              case rest =>
                obtain ⟨rfl, rfl⟩ := hcut
                cases tb with
                | true =>
                  obtain ⟨h12, hal⟩ := of_decide_eq_true HTB.out
                  have H12 := hid h12; have Hal := hid hal
                  obtain ⟨bl, ol, rfl, lbl, ccl⟩ := HLL.out.rd.at (by omega)
                  obtain ⟨Ab, cb, qb, hcb, rdb⟩ := ccl ai hal
                  have hbm := (HLL.out.wf (ll[ai]?.getD []) (by rw [List.getElem?_eq_getElem hal]; exact List.getElem_mem hal)).1
                  generalize ll[ai]?.getD [] = b at *
                  have HRB := hid rdb
                  have hal' : (ai : Int) < (ll.length : Int) := by omega
                  have hki' : (ki : Int) < 12 := by omega
                  have HC := hid (fun (W : World) (hu : Up w W) => (((bcell hu).1 _ _ lbl).trans qb : W.cell? ⟨bl, ol + ai, none⟩ = some (.slice Ab b.length cb)))
                  clear ccl h12 rdb
                  go_upto_region 30 with fail
                  go_cut [196] (fun t wx => t = .bool false ∧ ∃ (v' : Value) (l' : Lg), Hid (Beside s l' L R) ∧ Hid (KS Q w wx g v' (.slice Ad L.length cd) (.slice Am (R.length + 1) cm) l' L R) ∧ Up w wx)
                  case first =>
                    as_aux_lemma =>
                    by_cases h1 : ai < ss.length
                    · have h1' : decide ((ai : Int) < (ss.length : Int)) = true := decide_eq_true (by omega)
                      obtain ⟨bs, os, rfl, lbs, ccs⟩ := HSS.out.rd.at (by omega)
                      have qs := ((bcell hU).1 _ _ lbs).trans (ccs ai h1)
                      generalize ss[ai]?.getD 0 = n at *
                      clear ccs
                      by_cases h2 : n = 1
                      · subst h2
                        rcases sync_two l with ⟨l2, e, e1, e2, e3⟩ | ⟨l2, e, e1, e2, e3, e4⟩
                        · have He := hid e; have HB2 := hid (show Beside s l2 L R from ⟨e1.trans HB.out.all, e2.trans HB.out.recs, e3.trans HB.out.sides⟩)
                          clear e e1 e2 e3
                          go_wp2_with (first
                        | ((go_at_call 18; (with_reducible refine (sync_K (HK.out.up (by (repeat (first | (with_reducible exact Up.refl _) | (with_reducible assumption) | (with_reducible refine Up.alloc ?_ _) | (with_reducible refine Up.drew ?_) | ((with_reducible refine Up.set ?_ ?_ _); rotate_left; focus (first | omega | (simp; done) | (simp; omega))) | (with_reducible refine Up.drewN ?_ _) | (with_reducible refine Up.call ?_ (by with_reducible assumption)))))) He.out).mono ?_); rintro e w12 ⟨v12, rfl, hK12⟩ <;> (have hb12 := hK12.since; have HK12 := hid hK12; clear hK12)) <;> (have hle := Up.le hb12; (try simp only [World.size_alloc, World.size_setCell, World.size_drew, World.heap_drewN] at hle); clear hle)))
                          go_meet
                          exact ⟨rfl, v12, l2, HB2.out, HK12.out, hb12⟩
                        · have He := hid e; have HB2 := hid (show Beside s l2 L R from ⟨e1.trans HB.out.all, e2.trans HB.out.recs, e3.trans HB.out.sides⟩); have He4 := hid e4
                          clear e e1 e2 e3 e4
                          go_wp2_with (first
                        | ((go_at_call 18; (with_reducible refine (sync_K (HK.out.up (by (repeat (first | (with_reducible exact Up.refl _) | (with_reducible assumption) | (with_reducible refine Up.alloc ?_ _) | (with_reducible refine Up.drew ?_) | ((with_reducible refine Up.set ?_ ?_ _); rotate_left; focus (first | omega | (simp; done) | (simp; omega))) | (with_reducible refine Up.drewN ?_ _) | (with_reducible refine Up.call ?_ (by with_reducible assumption)))))) He.out).mono ?_); rintro e w12 ⟨v12, rfl, hK12⟩ <;> (have hb12 := hK12.since; have HK12 := hid hK12; clear hK12)) <;> (have hle := Up.le hb12; (try simp only [World.size_alloc, World.size_setCell, World.size_drew, World.heap_drewN] at hle); clear hle))
                        | ((go_at_call 21; (with_reducible refine (safe_any g v12 l2 _ (HK12.out.log.up (by (repeat (first | (with_reducible exact Up.refl _) | (with_reducible assumption) | (with_reducible refine Up.alloc ?_ _) | (with_reducible refine Up.drew ?_) | ((with_reducible refine Up.set ?_ ?_ _); rotate_left; focus (first | omega | (simp; done) | (simp; omega))) | (with_reducible refine Up.drewN ?_ _) | (with_reducible refine Up.call ?_ (by with_reducible assumption))))))).mono ?_); rintro e w13 ⟨x13, rfl, rfl, hb13⟩ <;> (rw [He4.out])) <;> (have hle := Up.le hb13; (try simp only [World.size_alloc, World.size_setCell, World.size_drew, World.heap_drewN] at hle); clear hle))
                        | ((go_at_call 15; (with_reducible refine (bytes_any g v12 l2 _ (HK12.out.log.up (by (repeat (first | (with_reducible exact Up.refl _) | (with_reducible assumption) | (with_reducible refine Up.alloc ?_ _) | (with_reducible refine Up.drew ?_) | ((with_reducible refine Up.set ?_ ?_ _); rotate_left; focus (first | omega | (simp; done) | (simp; omega))) | (with_reducible refine Up.drewN ?_ _) | (with_reducible refine Up.call ?_ (by with_reducible assumption))))))).mono ?_); rintro e w14 ⟨x14, rfl, rfl, hb14⟩) <;> (have hle := Up.le hb14; (try simp only [World.size_alloc, World.size_setCell, World.size_drew, World.heap_drewN] at hle); clear hle)))
                          go_meet
                          exact ⟨by first | rfl | (simp; done), v12, l2, HB2.out, HK12.out.up (by (repeat (first | (with_reducible exact Up.refl _) | (with_reducible assumption) | (with_reducible refine Up.alloc ?_ _) | (with_reducible refine Up.drew ?_) | ((with_reducible refine Up.set ?_ ?_ _); rotate_left; focus (first | omega | (simp; done) | (simp; omega))) | (with_reducible refine Up.drewN ?_ _) | (with_reducible refine Up.call ?_ (by with_reducible assumption))))), by (repeat (first | (with_reducible exact Up.refl _) | (with_reducible assumption) | (with_reducible refine Up.alloc ?_ _) | (with_reducible refine Up.drew ?_) | ((with_reducible refine Up.set ?_ ?_ _); rotate_left; focus (first | omega | (simp; done) | (simp; omega))) | (with_reducible refine Up.drewN ?_ _) | (with_reducible refine Up.call ?_ (by with_reducible assumption))))⟩
                      · have h2' : (n == 1) = false := beq_eq_false_iff_ne.2 h2
                        go_wp2_with fail
                        go_meet
                        exact ⟨rfl, v, l, HB.out, HK.out, hU⟩
                    · have h1' : decide ((ai : Int) < (ss.length : Int)) = false := decide_eq_false (by omega)
                      go_wp2_with fail
                      go_meet
                      exact ⟨rfl, v, l, HB.out, HK.out, hU⟩
                  case rest =>
                    clear HB HK hU hle
                    obtain ⟨rfl, v, l, HB, HK, hU⟩ := hcut
                    have hq := HC.out _ hU
                    obtain ⟨E1, hE1⟩ : ∃ E1, (if 20 ≤ L.length then some 4 else bcheckF b) = E1 := ⟨_, rfl⟩
                    have HE1 := hid hE1
                    clear hE1
                    go_upto_if 199 with fail
                    go_cut [28] (fun e wx => e = .int .i64 (numO E1) ∧ Hid (KS Q w wx g v (.slice Ad L.length cd) (.slice Am (R.length + 1) cm) l L R) ∧ Up w wx)
                    case first =>
                      as_aux_lemma =>
                      by_cases h20 : 20 ≤ L.length
                      · have h20' : decide ((20 : Int) ≤ (L.length : Int)) = true := decide_eq_true (by omega)
                        go_wp2_with fail
                        go_meet
                        exact ⟨by rw [← HE1.out, if_pos h20]; rfl, HK.out, hU⟩
                      · have h20' : decide ((20 : Int) ≤ (L.length : Int)) = false := decide_eq_false (by omega)
                        go_wp2_with (first
                        | ((go_at_call 22; (with_reducible refine (rbox_any Ab b cb _ (HRB.out.up (by (repeat (first | (with_reducible exact Up.refl _) | (with_reducible assumption) | (with_reducible refine Up.alloc ?_ _) | (with_reducible refine Up.drew ?_) | ((with_reducible refine Up.set ?_ ?_ _); rotate_left; focus (first | omega | (simp; done) | (simp; omega))) | (with_reducible refine Up.drewN ?_ _) | (with_reducible refine Up.call ?_ (by with_reducible assumption))))))).mono ?_); rintro e w12 ⟨x12, rfl, rfl, hb12⟩) <;> (have hle := Up.le hb12; (try simp only [World.size_alloc, World.size_setCell, World.size_drew, World.heap_drewN] at hle); clear hle)))
                        go_meet
                        exact ⟨by rw [← HE1.out, if_neg h20]; cases bcheckF b <;> rfl, HK.out.up (by (repeat (first | (with_reducible exact Up.refl _) | (with_reducible assumption) | (with_reducible refine Up.alloc ?_ _) | (with_reducible refine Up.drew ?_) | ((with_reducible refine Up.set ?_ ?_ _); rotate_left; focus (first | omega | (simp; done) | (simp; omega))) | (with_reducible refine Up.drewN ?_ _) | (with_reducible refine Up.call ?_ (by with_reducible assumption))))), by (repeat (first | (with_reducible exact Up.refl _) | (with_reducible assumption) | (with_reducible refine Up.alloc ?_ _) | (with_reducible refine Up.drew ?_) | ((with_reducible refine Up.set ?_ ?_ _); rotate_left; focus (first | omega | (simp; done) | (simp; omega))) | (with_reducible refine Up.drewN ?_ _) | (with_reducible refine Up.call ?_ (by with_reducible assumption))))⟩
                    case rest =>
                      clear HK hU hq
                      obtain ⟨rfl, HK, hU⟩ := hcut
                      have hq := HC.out _ hU
                      have HPE := hid (putE_of HB.out HE1.out)
                      obtain ⟨tc, htc⟩ : ∃ tc, decide (E1 = none ∧ ¬ (b.length : Int) = s) = tc := ⟨_, rfl⟩
                      have HTC := hid htc
                      clear htc
                      go_upto_region 36 with fail
                      go_cut [215] (fun t wx => t = .bool tc ∧ wx = wc)
                      case first =>
                        as_aux_lemma =>
                        have hE : (∃ n, E1 = some n) ∨ E1 = none := by
                          cases E1 with
                          | some n => exact .inl ⟨n, rfl⟩
                          | none => exact .inr rfl
                        rcases hE with ⟨n, hE⟩ | hE
                        · have hn1 : (numO E1 == 0) = false := by
                            rw [hE]
                            exact beq_eq_false_iff_ne.2 (by have := e1_num (HE1.out.trans hE); show (n : Int) ≠ 0; omega)
                          have HE := hid hE
                          clear hE
                          go_wp2
                          go_meet
                          exact ⟨by rw [← HTC.out, HE.out]; simp, rfl⟩
                        · have hn1 : (numO E1 == 0) = true := by rw [hE]; rfl
                          have HE := hid hE
                          clear hE
                          by_cases hbs : (b.length : Int) = s
                          · have hbs' : ((b.length : Int) != s) = false := by simpa using hbs
                            have HBS := hid hbs
                            clear hbs
                            go_wp2
                            go_meet
                            exact ⟨by rw [← HTC.out]; simp [HBS.out], rfl⟩
                          · have hbs' : ((b.length : Int) != s) = true := by simpa using hbs
                            have HBS := hid hbs
                            clear hbs
                            go_wp2
                            go_meet
                            exact ⟨by rw [← HTC.out]; simp [HBS.out, HE.out], rfl⟩
                      case rest =>
                        obtain ⟨rfl, hw⟩ := hcut
                        have hw2 := hw.symm
                        subst hw2
                        go_upto_if 215 with fail
                        go_cut [28] (fun e wx => e = .int .i64 (numO (putE l b)) ∧ wx = wc)
                        case first =>
                          as_aux_lemma =>
                          have hpe := HPE.out
                          cases tc with
                          | true =>
                            obtain ⟨h1, h2⟩ := of_decide_eq_true HTC.out
                            rw [h1] at hpe
                            unfold restE at hpe
                            dsimp only at hpe
                            rw [if_pos h2] at hpe
                            have HPE2 := hid hpe
                            clear hpe h1 h2
                            go_wp2
                            go_meet
                            exact ⟨by rw [HPE2.out]; rfl, rfl⟩
                          | false =>
                            have h1 := of_decide_eq_false HTC.out
                            have h2 : putE l b = E1 := by
                              rw [hpe]
                              cases E1 with
                              | some n => rfl
                              | none =>
                                unfold restE
                                dsimp only
                                rw [if_neg (fun k => h1 ⟨rfl, k⟩)]
                            have HPE2 := hid h2
                            clear hpe h1 h2
                            go_wp2
                            go_meet
                            exact ⟨by rw [HPE2.out], rfl⟩
                        case rest =>
                          obtain ⟨rfl, hw⟩ := hcut
                          have hw2 := hw.symm
                          subst hw2
                          obtain ⟨r, l2, hput, hr6, hrs, hrn⟩ := put_r HB.out HK.out.log.ok b
                          have Hput := hid hput; have Hr6 := hid hr6; have Hrs := hid hrs; have Hrn := hid hrn
                          have hsz := HK.out.log.ok.size
                          have HCB := hid hcb
                          clear hput hr6 hrs hrn hcb
                          go_upto_region 42 with (first
                            | ((go_at_call 15; (with_reducible refine (bytes_any g v l _ (HK.out.log.up (by (repeat (first | (with_reducible exact Up.refl _) | (with_reducible assumption) | (with_reducible refine Up.alloc ?_ _) | (with_reducible refine Up.drew ?_) | ((with_reducible refine Up.set ?_ ?_ _); rotate_left; focus (first | omega | (simp; done) | (simp; omega))) | (with_reducible refine Up.drewN ?_ _) | (with_reducible refine Up.call ?_ (by with_reducible assumption))))))).mono ?_); rintro e w12 ⟨x12, rfl, rfl, hb12⟩ <;> (have hq12 := HC.out _ (show Up w w12 by (repeat (first | (with_reducible exact Up.refl _) | (with_reducible assumption) | (with_reducible refine Up.alloc ?_ _) | (with_reducible refine Up.drew ?_) | ((with_reducible refine Up.set ?_ ?_ _); rotate_left; focus (first | omega | (simp; done) | (simp; omega))) | (with_reducible refine Up.drewN ?_ _) | (with_reducible refine Up.call ?_ (by with_reducible assumption))))))) <;> (have hle := Up.le hb12; (try simp only [World.size_alloc, World.size_setCell, World.size_drew, World.heap_drewN] at hle); clear hle))
                            | ((go_at_call 13; (with_reducible refine (put_K (HK.out.up (by (repeat (first | (with_reducible exact Up.refl _) | (with_reducible assumption) | (with_reducible refine Up.alloc ?_ _) | (with_reducible refine Up.drew ?_) | ((with_reducible refine Up.set ?_ ?_ _); rotate_left; focus (first | omega | (simp; done) | (simp; omega))) | (with_reducible refine Up.drewN ?_ _) | (with_reducible refine Up.call ?_ (by with_reducible assumption)))))) Hput.out HRB.out HP.out).mono ?_); rintro e w13 ⟨v13, rfl, hK13⟩ <;> (have hb13 := hK13.since; have HK13 := hid hK13; clear hK13)) <;> (have hle := Up.le hb13; (try simp only [World.size_alloc, World.size_setCell, World.size_drew, World.heap_drewN] at hle); clear hle))
                            | ((go_at_call 10; (with_reducible refine (serr_any r 6 _ (HD.out.up (by (repeat (first | (with_reducible exact Up.refl _) | (with_reducible assumption) | (with_reducible refine Up.alloc ?_ _) | (with_reducible refine Up.drew ?_) | ((with_reducible refine Up.set ?_ ?_ _); rotate_left; focus (first | omega | (simp; done) | (simp; omega))) | (with_reducible refine Up.drewN ?_ _) | (with_reducible refine Up.call ?_ (by with_reducible assumption))))))).mono ?_); rintro e w14 ⟨rfl, hb14⟩ <;> (obtain ⟨t6, h6⟩ : ∃ t, decide (numO r = 6) = t := ⟨_, rfl⟩; rw [h6]; have H6 := hid h6; clear h6)) <;> (have hle := Up.le hb14; (try simp only [World.size_alloc, World.size_setCell, World.size_drew, World.heap_drewN] at hle); clear hle))
                            | ((go_at_call 10; (with_reducible refine (serr_any r (numO (putE l b)) _ (HD.out.up (by (repeat (first | (with_reducible exact Up.refl _) | (with_reducible assumption) | (with_reducible refine Up.alloc ?_ _) | (with_reducible refine Up.drew ?_) | ((with_reducible refine Up.set ?_ ?_ _); rotate_left; focus (first | omega | (simp; done) | (simp; omega))) | (with_reducible refine Up.drewN ?_ _) | (with_reducible refine Up.call ?_ (by with_reducible assumption))))))).mono ?_); rintro e w15 ⟨rfl, hb15⟩ <;> (obtain ⟨t7, h7⟩ : ∃ t, decide (numO r = numO (putE l b)) = t := ⟨_, rfl⟩; rw [h7]; have H7 := hid h7; clear h7)) <;> (have hle := Up.le hb15; (try simp only [World.size_alloc, World.size_setCell, World.size_drew, World.heap_drewN] at hle); clear hle)))
                          have HK15 := hid (HK13.out.up (show Up w13 w15 from (Up.refl w13).call hb14 |>.call hb15))
                          have hU15 : Up w w15 := HK15.out.since
                          have hq15 := HC.out _ hU15
                          clear hb12 hb13 hb14 hb15 HK13 HK hU hq hq12
                          go_cut [234] (fun t wx => t = .bool false ∧ wx = w15)
                          case first =>
                            as_aux_lemma =>
                            cases t6
                            · cases t7
                              · exfalso
                                rcases Hr6.out with h | h
                                · exact absurd (decide_eq_true h) (by rw [H6.out]; decide)
                                · exact absurd (decide_eq_true h) (by rw [H7.out]; decide)
                              · go_wp2
                                go_meet
                                exact ⟨rfl, rfl⟩
                            · cases t7
                              all_goals
                                go_wp2
                                go_meet
                                exact ⟨rfl, rfl⟩
                          case rest =>
                            obtain ⟨rfl, hw⟩ := hcut
                            have hw2 := hw.symm
                            subst hw2
                            go_upto_region 44 with fail
                            go_cut [236] (fun t wx => t = .bool r.isNone ∧ wx = w15)
                            case first =>
                              as_aux_lemma =>
                              cases r
                              all_goals
                                go_wp2
                                go_meet
                                exact ⟨rfl, rfl⟩
                            case rest =>
                              obtain ⟨rfl, hw⟩ := hcut
                              have hw2 := hw.symm
                              subst hw2
                              go_upto_if 236 with fail
                              go_cut [23, 24] (fun vd vm wx => ∃ (Q : Nat → Prop) (v : Value) (l : Lg) (L : List (List Sp)) (R : List (List UInt8)), Hid (Beside s l L R) ∧ Hid (KS Q w wx g v vd vm l L R) ∧ Up w wx)
                              case first =>
                                as_aux_lemma =>
                                cases r with
                                | some n =>
                                  go_wp2
                                  go_meet
                                  exact ⟨Q, v13, l2, L, R, Hrs.out n rfl, HK15.out, hU15⟩
                                | none =>
                                  obtain ⟨hbc, hB2, htx, h2⟩ := Hrn.out rfl
                                  have hlt2 : decide ((l2.text.length : Int) < (l.text.length : Int) + 2) = false := decide_eq_false (by omega)
                                  have HB2 := hid hB2; have HTX := hid htx
                                  have HBC := hid (bcheck_bx hbc).pos
                                  have HML := hid (marks_len R)
                                  have HRL2 : R.length ≤ 20 := by rw [HRL.out]; exact hL20
                                  clear hbc hB2 htx h2
                                  go_wp2_with (first
                        | ((go_at_call 15; (with_reducible refine (bytes_any g v13 l2 _ (HK17.out.log.up (by (repeat (first | (with_reducible exact Up.refl _) | (with_reducible assumption) | (with_reducible refine Up.alloc ?_ _) | (with_reducible refine Up.drew ?_) | ((with_reducible refine Up.set ?_ ?_ _); rotate_left; focus (first | omega | (simp; done) | (simp; omega))) | (with_reducible refine Up.drewN ?_ _) | (with_reducible refine Up.call ?_ (by with_reducible assumption))))))).mono ?_); rintro e w18 ⟨x18, rfl, rfl, hb18⟩ <;> (have HK18 := hid (HK17.out.up (show Up w17 w18 by (repeat (first | (with_reducible exact Up.refl _) | (with_reducible assumption) | (with_reducible refine Up.alloc ?_ _) | (with_reducible refine Up.drew ?_) | ((with_reducible refine Up.set ?_ ?_ _); rotate_left; focus (first | omega | (simp; done) | (simp; omega))) | (with_reducible refine Up.drewN ?_ _) | (with_reducible refine Up.call ?_ (by with_reducible assumption)))))))) <;> (have hle := Up.le hb18; (try simp only [World.size_alloc, World.size_setCell, World.size_drew, World.heap_drewN] at hle); clear hle))
                        | ((go_at_call 15; (with_reducible refine (bytes_any g v13 l2 _ (HK15.out.log.up (by (repeat (first | (with_reducible exact Up.refl _) | (with_reducible assumption) | (with_reducible refine Up.alloc ?_ _) | (with_reducible refine Up.drew ?_) | ((with_reducible refine Up.set ?_ ?_ _); rotate_left; focus (first | omega | (simp; done) | (simp; omega))) | (with_reducible refine Up.drewN ?_ _) | (with_reducible refine Up.call ?_ (by with_reducible assumption))))))).mono ?_); rintro e w16 ⟨x16, rfl, rfl, hb16⟩ <;> (have hq16 := HC.out _ (show Up w w16 by (repeat (first | (with_reducible exact Up.refl _) | (with_reducible assumption) | (with_reducible refine Up.alloc ?_ _) | (with_reducible refine Up.drew ?_) | ((with_reducible refine Up.set ?_ ?_ _); rotate_left; focus (first | omega | (simp; done) | (simp; omega))) | (with_reducible refine Up.drewN ?_ _) | (with_reducible refine Up.call ?_ (by with_reducible assumption))))); have hK16 := HK15.out.up (show Up w15 w16 by (repeat (first | (with_reducible exact Up.refl _) | (with_reducible assumption) | (with_reducible refine Up.alloc ?_ _) | (with_reducible refine Up.drew ?_) | ((with_reducible refine Up.set ?_ ?_ _); rotate_left; focus (first | omega | (simp; done) | (simp; omega))) | (with_reducible refine Up.drewN ?_ _) | (with_reducible refine Up.call ?_ (by with_reducible assumption))))); obtain ⟨vs, p1, p2⟩ := hK16.done; have HK16 := hid hK16; have Hp1 := hid p1; have Hp2 := hid p2; clear hK16 p1 p2)) <;> (have hle := Up.le hb16; (try simp only [World.size_alloc, World.size_setCell, World.size_drew, World.heap_drewN] at hle); clear hle))
                        | (at_builtin; refine wpList_append_own_at _ rfl (.tmp 242) (.tmp 247) _ rfl (g + 1) 35 i0 (.slice none 0 0) 1 24 Tryd.underlying39 hi0 hz0 hz1 hz2 rfl (by decide) _ _ _ rfl (ownsUp Hp1.out ((Up.refl _).alloc _)) ⟨w16.heap.size, 0, none⟩ 1 1 [.slice Ab b.length cb] rfl rfl (cell_one_new _ _ _) (by simp [Value.oneCell']) (by unfold maxLen; omega) (by omega) (by have := HK16.out.log.lt; simp; omega) ?_; intro v17 w17 own17 g17 _ at17; obtain ⟨Q17, hK17⟩ := HK16.out.addD Hp2.out HRB.out HBC.out HCB.out (by have := Hp1.out.1; omega) _ own17 g17 at17; have hb17 := hK17.since; have HK17 := hid hK17; clear own17 g17 at17 hK17)
                        | (at_builtin; refine wpList_append_own_at _ rfl (.tmp 249) (.tmp 252) _ rfl (g + 1) 3 j0 (.int .i64 0) 1 8 Tryd.underlying45 hj0 hy0 hy1 hy2 rfl (by decide) _ _ _ rfl (ownsUp HK18.out.marks ((Up.refl _).alloc _)) ⟨w18.heap.size, 0, none⟩ 1 1 [.int .i64 l2.text.length] rfl rfl (cell_one_new _ _ _) (by simp [Value.oneCell']) (by rw [HML.out]; unfold maxLen; omega) (by rw [HML.out]; omega) (by have := HK18.out.log.lt; simp; omega) ?_; intro v19 w19 own19 g19 _ at19; obtain ⟨Q19, hK19⟩ := HK18.out.addM (r := recN b) _ HTX.out own19 g19 at19; have hb19 := hK19.since; have HK19 := hid hK19; clear own19 g19 at19 hK19))
                                  go_meet
                                  exact ⟨Q19, v13, l2, L ++ [b], R ++ [recN b], HB2.out, HK19.out, hb19⟩
                              case rest =>
                                clear HB HK15 hU15 hq15 HRL HTC HE1 HPE hL20 Hput Hr6 Hrs Hrn
                                obtain ⟨Q, v, l, L, R, HB, HK, hU⟩ := hcut
                                obtain ⟨⟨Ad, cd, rfl, hcd⟩, ⟨Am, cm, rfl, hcm⟩⟩ := HK.out.shape
                                have hL20 := HK.out.log.ok.few
                                have hle2 := own_le HK.out.log.ok
                                rw [HB.out.all] at hL20 hle2
                                have HLE2 := hid hle2
                                have HRD := hid HK.out.rdD.1
                                clear hle2
                                go_wp2_with (first
                        | ((go_at_call 16; (with_reducible refine (all_any g v l _ (HK.out.log.up (by (repeat (first | (with_reducible exact Up.refl _) | (with_reducible assumption) | (with_reducible refine Up.alloc ?_ _) | (with_reducible refine Up.drew ?_) | ((with_reducible refine Up.set ?_ ?_ _); rotate_left; focus (first | omega | (simp; done) | (simp; omega))) | (with_reducible refine Up.drewN ?_ _) | (with_reducible refine Up.call ?_ (by with_reducible assumption))))))).mono ?_); rintro e w20 ⟨x20, v20, hx20, rfl, hv20, hb20⟩ <;> (subst hx20; obtain ⟨A20, c20, rfl, hr20, hc20⟩ := hv20; rw [HB.out.all] at hr20 hc20 ⊢; have HR20 := hid hr20; clear hr20)) <;> (have hle := Up.le hb20; (try simp only [World.size_alloc, World.size_setCell, World.size_drew, World.heap_drewN] at hle); clear hle))
                        | ((go_at_call 23; (with_reducible refine (sboxes_self A20 Ad L c20 cd _ (RdR.upS HR20.out (by (repeat (first | (with_reducible exact Up.refl _) | (with_reducible assumption) | (with_reducible refine Up.alloc ?_ _) | (with_reducible refine Up.drew ?_) | ((with_reducible refine Up.set ?_ ?_ _); rotate_left; focus (first | omega | (simp; done) | (simp; omega))) | (with_reducible refine Up.drewN ?_ _) | (with_reducible refine Up.call ?_ (by with_reducible assumption)))))) (RdR.upS HRD.out (by (repeat (first | (with_reducible exact Up.refl _) | (with_reducible assumption) | (with_reducible refine Up.alloc ?_ _) | (with_reducible refine Up.drew ?_) | ((with_reducible refine Up.set ?_ ?_ _); rotate_left; focus (first | omega | (simp; done) | (simp; omega))) | (with_reducible refine Up.drewN ?_ _) | (with_reducible refine Up.call ?_ (by with_reducible assumption)))))) (by omega) HLE2.out).mono ?_); rintro e w21 ⟨rfl, hb21⟩) <;> (have hle := Up.le hb21; (try simp only [World.size_alloc, World.size_setCell, World.size_drew, World.heap_drewN] at hle); clear hle)))
                                go_roundw
                                case rel => exact ⟨ai + 1, ki + 1, Q, v, l, L, R, by go_num, by go_num, by omega, by omega, HB.out, HK.out.up (by (repeat (first | (with_reducible exact Up.refl _) | (with_reducible assumption) | (with_reducible refine Up.alloc ?_ _) | (with_reducible refine Up.drew ?_) | ((with_reducible refine Up.set ?_ ?_ _); rotate_left; focus (first | omega | (simp; done) | (simp; omega))) | (with_reducible refine Up.drewN ?_ _) | (with_reducible refine Up.call ?_ (by with_reducible assumption))))), by (repeat (first | (with_reducible exact Up.refl _) | (with_reducible assumption) | (with_reducible refine Up.alloc ?_ _) | (with_reducible refine Up.drew ?_) | ((with_reducible refine Up.set ?_ ?_ _); rotate_left; focus (first | omega | (simp; done) | (simp; omega))) | (with_reducible refine Up.drewN ?_ _) | (with_reducible refine Up.call ?_ (by with_reducible assumption))))⟩
                                case measure => have := H12.out; simp [intOf]; omega
                | false =>
                  go_wp2
                  go_meet
                  exact ⟨ai, Q, v, l, L, R, rfl, hai, HB.out, HK.out, hU⟩
          case rest =>
            as_aux_lemma =>
            clear HB HK hU hai
            obtain ⟨ai, Q, v, l, L, R, rfl, hai, HB, HK, hU⟩ := hcut
            obtain ⟨⟨Ad, cd, rfl, hcd⟩, ⟨Am, cm, rfl, hcm⟩⟩ := HK.out.shape
            have hle := hU.le
            have hL20 := HK.out.log.ok.few
            have hRL := HK.out.log.ok.recs
            rw [HB.out.all] at hL20 hRL
            rw [HB.out.recs] at hRL
            have HRL := hid hRL
            clear hRL
            obtain ⟨wp, hwp⟩ : ∃ x, x = wc := ⟨_, rfl⟩
            subst hwp
            have hsz := HK.out.log.ok.size
            have hsf := HK.out.log.ok.safe
            obtain ⟨L3, R3, e1, e2, e3, e4, e5, hB3, e6, e7, hmk⟩ : _ := crash_beside HB.out HK.out.log.ok (kk[ri]?.getD 0)
            obtain ⟨kn1, kn2, kn3⟩ := keepN_cases hsf (kk[ri]?.getD 0)
            have hki : I64 (kk[ri]?.getD 0) := by
              by_cases hC : ri < kk.length
              · exact HKK.out.wf _ (by rw [List.getElem?_eq_getElem hC]; exact List.getElem_mem hC)
              · rw [List.getElem?_eq_none (by omega)]; exact HI0.out
            obtain ⟨kp, hkp⟩ : ∃ kp, kk[ri]?.getD 0 = kp := ⟨_, rfl⟩
            rw [hkp] at hB3 e6 e7 hmk kn1 kn2 kn3 hki
            obtain ⟨m, hm⟩ : ∃ m, keepN l kp = m := ⟨_, rfl⟩
            rw [hm] at hmk kn1 kn2 kn3
            have HKP := hid hkp; have HKI := hid hki; have HN1 := hid kn1; have HN2 := hid kn2; have HN3 := hid kn3
            have E1 := hid e1; have E2 := hid e2; have E3 := hid e3; have E6 := hid e6; have E7 := hid e7; have HMK := hid hmk; have HB3 := hid hB3
            have hkm := HKK.out.max
            clear hkp hki kn1 kn2 kn3 e1 e2 e3 e6 e7 hmk hB3 hm
            go_upto_if 264 with fail
            go_cut [32] from 261 to 268 (fun k wx => k = .int .i64 kp ∧ wx = wp)
            case first =>
              as_aux_lemma =>
              have hkp := HKP.out
              by_cases hC : ri < kk.length
              · have hC' : decide ((ri : Int) < (kk.length : Int)) = true := decide_eq_true (by omega)
                obtain ⟨bk, ok, rfl, lbk, cck⟩ := HKK.out.rd.at (by omega)
                have qk := ((bcell hU).1 _ _ lbk).trans (cck ri hC)
                rw [hkp] at qk
                clear cck hkp
                go_wp2_with fail
                go_meet
                exact ⟨rfl, rfl⟩
              · have hC' : decide ((ri : Int) < (kk.length : Int)) = false := decide_eq_false (by omega)
                rw [List.getElem?_eq_none (by omega)] at hkp
                have HKP2 := hid (show (0 : Int) = kp from hkp)
                clear hkp
                go_wp2_with fail
                go_meet
                exact ⟨by rw [← HKP2.out], rfl⟩
            case rest =>
              obtain ⟨rfl, hw⟩ := hcut
              have hw2 := hw.symm
              subst hw2
              obtain ⟨tk, htk⟩ : ∃ tk, decide (0 < kp ∧ kp < (l.text.length : Int) - l.safe) = tk := ⟨_, rfl⟩
              have HTK := hid htk
              clear htk
              go_upto_region 59 with (first
                | ((go_at_call 15; (with_reducible refine (bytes_any g v l _ (HK.out.log.up (by (repeat (first | (with_reducible exact Up.refl _) | (with_reducible assumption) | (with_reducible refine Up.alloc ?_ _) | (with_reducible refine Up.drew ?_) | ((with_reducible refine Up.set ?_ ?_ _); rotate_left; focus (first | omega | (simp; done) | (simp; omega))) | (with_reducible refine Up.drewN ?_ _) | (with_reducible refine Up.call ?_ (by with_reducible assumption))))))).mono ?_); rintro e w12 ⟨x12, rfl, rfl, hb12⟩) <;> (have hle := Up.le hb12; (try simp only [World.size_alloc, World.size_setCell, World.size_drew, World.heap_drewN] at hle); clear hle))
                | ((go_at_call 21; (with_reducible refine (safe_any g v l _ (HK.out.log.up (by (repeat (first | (with_reducible exact Up.refl _) | (with_reducible assumption) | (with_reducible refine Up.alloc ?_ _) | (with_reducible refine Up.drew ?_) | ((with_reducible refine Up.set ?_ ?_ _); rotate_left; focus (first | omega | (simp; done) | (simp; omega))) | (with_reducible refine Up.drewN ?_ _) | (with_reducible refine Up.call ?_ (by with_reducible assumption))))))).mono ?_); rintro e w13 ⟨x13, rfl, rfl, hb13⟩) <;> (have hle := Up.le hb13; (try simp only [World.size_alloc, World.size_setCell, World.size_drew, World.heap_drewN] at hle); clear hle))
                | ((go_at_call 19; (with_reducible refine (crash_K kp (HK.out.up (by (repeat (first | (with_reducible exact Up.refl _) | (with_reducible assumption) | (with_reducible refine Up.alloc ?_ _) | (with_reducible refine Up.drew ?_) | ((with_reducible refine Up.set ?_ ?_ _); rotate_left; focus (first | omega | (simp; done) | (simp; omega))) | (with_reducible refine Up.drewN ?_ _) | (with_reducible refine Up.call ?_ (by with_reducible assumption)))))) HKI.out).mono ?_); rintro e w14 ⟨v14, rfl, hK14⟩ <;> (have hb14 := hK14.since; have HK14 := hid hK14; clear hK14)) <;> (have hle := Up.le hb14; (try simp only [World.size_alloc, World.size_setCell, World.size_drew, World.heap_drewN] at hle); clear hle)))
              clear hb12 hb13 HK hU
              go_cut [285] from 277 to 285 (fun t wx => t = .bool tk ∧ wx = w14)
              case first =>
                as_aux_lemma =>
                by_cases h1 : 0 < kp
                · by_cases h2 : kp < (l.text.length : Int) - l.safe
                  · have HT2 := hid (show true = tk by rw [← HTK.out]; simp [h1, h2])
                    go_wp2
                    go_meet
                    exact ⟨by rw [← HT2.out], rfl⟩
                  · have HT2 := hid (show false = tk by rw [← HTK.out]; simp [h1, h2])
                    go_wp2
                    go_meet
                    exact ⟨by rw [← HT2.out], rfl⟩
                · have HT2 := hid (show false = tk by rw [← HTK.out]; simp [h1])
                  go_wp2
                  go_meet
                  exact ⟨by rw [← HT2.out], rfl⟩
              case rest =>
                obtain ⟨rfl, hw⟩ := hcut
                have hw2 := hw.symm
                subst hw2
                go_upto_if 285 with fail
                go_cut [35] from 285 to 291 (fun h wx => h = .int .i64 (m : Nat) ∧ wx = w14)
                case first =>
                  as_aux_lemma =>
                  cases tk with
                  | true =>
                    obtain ⟨h1, h2⟩ := of_decide_eq_true HTK.out
                    have HX := hid (HN1.out h1 h2)
                    go_wp2
                    go_meet
                    exact ⟨by rw [HX.out], rfl⟩
                  | false =>
                    have h0 := of_decide_eq_false HTK.out
                    by_cases h1 : 0 < kp
                    · have HX := hid (HN2.out h1 (by omega))
                      clear h0
                      go_wp2
                      go_meet
                      exact ⟨by rw [HX.out], rfl⟩
                    · have HX := hid (HN3.out (by omega))
                      clear h0
                      go_wp2
                      go_meet
                      exact ⟨by rw [HX.out], rfl⟩
                case rest =>
                  obtain ⟨rfl, hw⟩ := hcut
                  have hw2 := hw.symm
                  subst hw2
                  obtain ⟨bm, om, rfl, lbm, ccm⟩ := HK14.out.rdM
                  have CCM := hid ccm; have LBM := hid lbm
                  clear ccm lbm
                  go_upto_block 4 with fail
                  go_cut [36] from 292 to 304 (fun f wx => f = .int .i64 (L3.length : Nat) ∧ Up w14 wx)
                  case first =>
                    as_aux_lemma =>
                    go_wp2_with fail
                    go_loopw [36, 37] (fun f i ws => ∃ (j z : Nat), j ≤ R.length + 1 ∧ i = .int .i64 j ∧ f = .int .i64 z ∧ Hid (z = min (j - 1) L3.length) ∧ Up w14 ws) (fun _ i _ => R.length + 1 - (intOf i).toNat)
                    case atStart => exact ⟨0, 0, by omega, rfl, rfl, (show (0 : Nat) = min (0 - 1) L3.length by simp), Up.refl _⟩
                    case round =>
                      obtain ⟨j, z, hj, rfl, rfl, HZ, hU⟩ := hrel
                      have hRL := HRL.out
                      by_cases hlt : j < R.length + 1
                      · have hjr : (j : Int) < (R.length : Int) + 1 := by omega
                        have hj0 : (0 : Int) ≤ (j : Int) := by omega
                        have qj := ((bcell hU).1 _ _ LBM.out).trans (CCM.out j (by omega))
                        have hx := HMK.out j (by omega)
                        have hj30 : j ≤ 30 := by omega
                        generalize (joinR (R.take j)).length = x at *
                        have HJ := hid hlt
                        by_cases hc : j ≤ L3.length
                        · have hxm : decide ((x : Int) ≤ (m : Int)) = true := decide_eq_true (by have := hx.2 hc; omega)
                          have hxn : x ≤ m := hx.2 hc
                          clear hx
                          clear hRL
                          go_wp2
                          go_roundw
                          case rel => exact ⟨j + 1, j, by omega, by go_num, rfl, by have := HJ.out; show j = min (j + 1 - 1) L3.length; omega, hU⟩
                          case measure => have := HJ.out; simp [intOf]; omega
                        · have hxm : decide ((x : Int) ≤ (m : Int)) = false := decide_eq_false (fun h => hc (hx.1 (by omega)))
                          have hxn : ¬ x ≤ m := fun h => hc (hx.1 h)
                          clear hx
                          clear hRL
                          go_wp2
                          go_roundw
                          case rel => exact ⟨j + 1, z, by omega, by go_num, rfl, by have := HZ.out; show z = min (j + 1 - 1) L3.length; omega, hU⟩
                          case measure => have := HJ.out; simp [intOf]; omega
                      · have hjr : ¬ (j : Int) < (R.length : Int) + 1 := by omega
                        have hjr2 : ¬ (j : Int) ≤ (R.length : Int) := by omega
                        have hjr3 : ¬ j ≤ R.length := by omega
                        have hjr4 : ¬ j < R.length + 1 := hlt
                        obtain rfl : z = L3.length := by have := HZ.out; omega
                        clear hRL
                        go_wp2
                        go_meet
                        exact ⟨rfl, hU⟩
                  case rest =>
                    obtain ⟨rfl, hU⟩ := hcut
                    have hRL := HRL.out
                    have hc1 : L3.length ≤ cd := by omega
                    have hc2 : L3.length + 1 ≤ cm := by omega
                    have HS := hid (show KS Q w wc g v14 (.slice Ad L3.length cd) (.slice (some ⟨bm, om, none⟩) (L3.length + 1) cm) (crashF l kp) L3 R3 from by
                      have h9 := (HK14.out.cut (k := L3.length) (by omega) (by omega)).up hU
                      rw [E1.out, E2.out] at h9
                      exact h9)
                    have hSU := HS.out.since
                    have hoks := HS.out.log.ok
                    have h20 := hoks.few
                    have HBX := hid (box_sides HB3.out hoks)
                    have hle2 := own_le hoks
                    rw [HB3.out.all] at h20 hle2
                    have HLE2 := hid hle2
                    have HRD := hid HS.out.rdD.1
                    have qm := ((bcell hU).1 _ _ LBM.out).trans (CCM.out L3.length (by omega))
                    have lbm := LBM.out
                    have lbm2 := Nat.lt_of_lt_of_le lbm hU.le
                    obtain ⟨X, hX⟩ : ∃ X, (joinR (R.take L3.length)).length = X := ⟨_, rfl⟩
                    have HX1 := hid (E6.out.trans hX); have HX2 := hid (E7.out.trans hX)
                    have hz3 : (L3.length : Int) < (L3.length : Int) + 1 := by omega
                    have hXb : X ≤ 100000 := by have h9 := hoks.size; have h8 := HX1.out; omega
                    rw [hX] at qm
                    have HQM := hid (fun (W : World) (hu : Up wc W) => ((bcell hu).1 _ _ lbm2).trans qm)
                    clear hle2 hX HK14 hoks hRL
                    obtain ⟨ws, hws⟩ : ∃ x, x = wc := ⟨_, rfl⟩
                    subst hws
                    go_upto_region 71 with fail
                    go_cut [334] from 312 to 334 (fun t wx => t = .bool false ∧ Up ws wx)
                    case first =>
                      as_aux_lemma =>
                      go_region_held3 (fun w' => w'.cell? ⟨bm, om + L3.length, none⟩ = some (.int .i64 X)) (exact HQM.out _ (by (repeat (first | (with_reducible exact Up.refl _) | (with_reducible assumption) | (with_reducible refine Up.alloc ?_ _) | (with_reducible refine Up.drew ?_) | ((with_reducible refine Up.set ?_ ?_ _); rotate_left; focus (first | omega | (simp; done) | (simp; omega))) | (with_reducible refine Up.drewN ?_ _) | (with_reducible refine Up.call ?_ (by with_reducible assumption)))))) (first
                        | ((go_at_call 16; (with_reducible refine (all_any g v14 (crashF l kp) _ (HS.out.log.up (by (repeat (first | (with_reducible exact Up.refl _) | (with_reducible assumption) | (with_reducible refine Up.alloc ?_ _) | (with_reducible refine Up.drew ?_) | ((with_reducible refine Up.set ?_ ?_ _); rotate_left; focus (first | omega | (simp; done) | (simp; omega))) | (with_reducible refine Up.drewN ?_ _) | (with_reducible refine Up.call ?_ (by with_reducible assumption))))))).mono ?_); rintro e w20 ⟨x20, v20, hx20, rfl, hv20, hb20⟩ <;> (subst hx20; obtain ⟨A20, c20, rfl, hr20, hc20⟩ := hv20; rw [HB3.out.all] at hr20 hc20 ⊢; have HR20 := hid hr20; clear hr20)) <;> (have hle := Up.le hb20; (try simp only [World.size_alloc, World.size_setCell, World.size_drew, World.heap_drewN] at hle); clear hle))
                        | ((go_at_call 23; (with_reducible refine (sboxes_self A20 Ad L3 c20 cd _ (RdR.upS HR20.out (by (repeat (first | (with_reducible exact Up.refl _) | (with_reducible assumption) | (with_reducible refine Up.alloc ?_ _) | (with_reducible refine Up.drew ?_) | ((with_reducible refine Up.set ?_ ?_ _); rotate_left; focus (first | omega | (simp; done) | (simp; omega))) | (with_reducible refine Up.drewN ?_ _) | (with_reducible refine Up.call ?_ (by with_reducible assumption)))))) (RdR.upS HRD.out (by (repeat (first | (with_reducible exact Up.refl _) | (with_reducible assumption) | (with_reducible refine Up.alloc ?_ _) | (with_reducible refine Up.drew ?_) | ((with_reducible refine Up.set ?_ ?_ _); rotate_left; focus (first | omega | (simp; done) | (simp; omega))) | (with_reducible refine Up.drewN ?_ _) | (with_reducible refine Up.call ?_ (by with_reducible assumption)))))) (by omega) HLE2.out).mono ?_); rintro e w21 ⟨rfl, hb21⟩) <;> (have hle := Up.le hb21; (try simp only [World.size_alloc, World.size_setCell, World.size_drew, World.heap_drewN] at hle); clear hle))
                        | ((go_at_call 15; (with_reducible refine (bytes_any g v14 (crashF l kp) _ (HS.out.log.up (by (repeat (first | (with_reducible exact Up.refl _) | (with_reducible assumption) | (with_reducible refine Up.alloc ?_ _) | (with_reducible refine Up.drew ?_) | ((with_reducible refine Up.set ?_ ?_ _); rotate_left; focus (first | omega | (simp; done) | (simp; omega))) | (with_reducible refine Up.drewN ?_ _) | (with_reducible refine Up.call ?_ (by with_reducible assumption))))))).mono ?_); rintro e w22 ⟨x22, rfl, rfl, hb22⟩ <;> (rw [HX1.out])) <;> (have hle := Up.le hb22; (try simp only [World.size_alloc, World.size_setCell, World.size_drew, World.heap_drewN] at hle); clear hle))
                        | ((go_at_call 21; (with_reducible refine (safe_any g v14 (crashF l kp) _ (HS.out.log.up (by (repeat (first | (with_reducible exact Up.refl _) | (with_reducible assumption) | (with_reducible refine Up.alloc ?_ _) | (with_reducible refine Up.drew ?_) | ((with_reducible refine Up.set ?_ ?_ _); rotate_left; focus (first | omega | (simp; done) | (simp; omega))) | (with_reducible refine Up.drewN ?_ _) | (with_reducible refine Up.call ?_ (by with_reducible assumption))))))).mono ?_); rintro e w23 ⟨x23, rfl, rfl, hb23⟩ <;> (rw [HX2.out])) <;> (have hle := Up.le hb23; (try simp only [World.size_alloc, World.size_setCell, World.size_drew, World.heap_drewN] at hle); clear hle)))
                      all_goals go_wp2
                      all_goals
                        go_meet
                        exact ⟨by first | rfl | (simp; done), by (repeat (first | (with_reducible exact Up.refl _) | (with_reducible assumption) | (with_reducible refine Up.alloc ?_ _) | (with_reducible refine Up.drew ?_) | ((with_reducible refine Up.set ?_ ?_ _); rotate_left; focus (first | omega | (simp; done) | (simp; omega))) | (with_reducible refine Up.drewN ?_ _) | (with_reducible refine Up.call ?_ (by with_reducible assumption))))⟩
                    case rest =>
                      obtain ⟨rfl, hU71⟩ := hcut
                      have hS := HS.out.up hU71
                      have HS2 := hid hS
                      have HRD2 := hid hS.rdD.1
                      clear hS HS HRD HQM qm hSU
                      obtain ⟨wq, hwq⟩ : ∃ x, x = wc := ⟨_, rfl⟩
                      subst hwq
                      go_upto_region 73 with fail
                      go_upto_block 6 with fail
                      go_cut [38, 39] from 335 to 351 (fun e wt wx => ∃ (ez : Int) (A : Option Addr) (c : Nat) (x : List Sp), wt = .slice A x.length c ∧ e = .int .i64 ez ∧ Hid (ez = if L3.length = 0 then 5 else 0) ∧ Hid (wantG L3 L3.length = x) ∧ Hid (RdS wx A x) ∧ Up wq wx)
                      case first =>
                        as_aux_lemma =>
                        go_wp2_with fail
                        go_loopw [38, 39, 40] (fun e wt i wz => ∃ (j : Nat) (ez : Int) (A : Option Addr) (c : Nat) (x : List Sp), j ≤ L3.length ∧ i = .int .i64 j ∧ wt = .slice A x.length c ∧ e = .int .i64 ez ∧ Hid (ez = if j = 0 then 5 else 0) ∧ Hid (wantG L3 j = x) ∧ Hid (RdS wz A x) ∧ Up wq wz) (fun _ _ i _ => L3.length - (intOf i).toNat)
                        case atStart => exact ⟨0, 5, none, 0, [], by omega, rfl, rfl, rfl, rfl, rfl, RdS.nil _ none, Up.refl _⟩
                        case round =>
                          obtain ⟨j, ez, A, c, x, hj, rfl, rfl, rfl, HZ, HX, HRA, hU⟩ := hrel
                          by_cases hlt : j < L3.length
                          · obtain ⟨bd, od, rfl, lbd, ccd⟩ := HRD2.out.at (by omega)
                            obtain ⟨A0, c0, q1, q2, q3⟩ := ccd j hlt
                            have qj := ((bcell hU).1 _ _ lbd).trans q1
                            have HY := hid (q3.up hU)
                            have HJ := hid hlt
                            have hjl : (j : Int) < (L3.length : Int) := by omega
                            have hj0 : (0 : Int) ≤ (j : Int) := by omega
                            have hyl : (L3[j]?.getD []).length = s.toNat := (HBX.out _ (by rw [List.getElem?_eq_getElem hlt]; exact List.getElem_mem hlt)).2
                            have hyf := (HBX.out (L3[j]?.getD []) (by rw [List.getElem?_eq_getElem hlt]; exact List.getElem_mem hlt)).1.few
                            by_cases h0 : j = 0
                            · have hjz : ((j : Int) == 0) = true := by simp [h0]
                              have HW := hid (show wantG L3 (j + 1) = L3[j]?.getD [] by rw [h0]; exact want_one (by omega))
                              have qj0 : wr.cell? ⟨bd, od, none⟩ = some (.slice A0 (L3[j]?.getD []).length c0) := by
                                have e : od + j = od := by omega
                                have h9 := qj
                                rw [e] at h9
                                exact h9
                              have h00 : (0 : Int) < (L3.length : Int) := by omega
                              have h01 : 0 < L3.length := by omega
                              generalize L3[j]?.getD [] = y at *
                              clear ccd q1 q3 h0 hyl hyf
                              go_wp2
                              go_roundw
                              case rel => exact ⟨j + 1, 0, A0, c0, y, by have := HJ.out; omega, by go_num, rfl, rfl, by show (0 : Int) = if j + 1 = 0 then 5 else 0; rw [if_neg (by omega)], HW.out, HY.out, hU⟩
                              case measure => have := HJ.out; simp [intOf]; omega
                            · have hjz : ((j : Int) == 0) = false := beq_eq_false_iff_ne.2 (by omega)
                              have HW := hid (show wantG L3 (j + 1) = bbothF x (L3[j]?.getD []) by rw [want_succ (by omega) hlt, HX.out])
                              have hxl : x.length = s.toNat := by rw [← HX.out]; exact want_len (fun y hy => (HBX.out y hy).2) j (by omega) (by omega)
                              have Hxl := hid hxl; have Hyl := hid hyl
                              have HEZ := hid (show ez = if j + 1 = 0 then 5 else 0 by rw [HZ.out, if_neg h0, if_neg (by omega)])
                              generalize L3[j]?.getD [] = y at *
                              clear ccd q1 q3 h0 hxl hyl
                              go_wp2_with (first
                        | ((go_at_call 24; (with_reducible refine (rhullbox_any A A0 x y c c0 _ (HRA.out.up (by (repeat (first | (with_reducible exact Up.refl _) | (with_reducible assumption) | (with_reducible refine Up.alloc ?_ _) | (with_reducible refine Up.drew ?_) | ((with_reducible refine Up.set ?_ ?_ _); rotate_left; focus (first | omega | (simp; done) | (simp; omega))) | (with_reducible refine Up.drewN ?_ _) | (with_reducible refine Up.call ?_ (by with_reducible assumption)))))) (HY.out.up (by (repeat (first | (with_reducible exact Up.refl _) | (with_reducible assumption) | (with_reducible refine Up.alloc ?_ _) | (with_reducible refine Up.drew ?_) | ((with_reducible refine Up.set ?_ ?_ _); rotate_left; focus (first | omega | (simp; done) | (simp; omega))) | (with_reducible refine Up.drewN ?_ _) | (with_reducible refine Up.call ?_ (by with_reducible assumption)))))) (by rw [Hxl.out, Hyl.out]) (by have := Hxl.out; have := Hyl.out; omega)).mono ?_); rintro e w30 ⟨x30, v30, hx30, rfl, hv30, hb30⟩ <;> (subst hx30; obtain ⟨A30, c30, rfl, hr30, hc30⟩ := OwnS.rd hv30; have HR30 := hid hr30; clear hv30 hr30)) <;> (have hle := Up.le hb30; (try simp only [World.size_alloc, World.size_setCell, World.size_drew, World.heap_drewN] at hle); clear hle)))
                              go_roundw
                              case rel => exact ⟨j + 1, ez, A30, c30, bbothF x y, by have := HJ.out; omega, by go_num, rfl, rfl, HEZ.out, HW.out, HR30.out.up (by (repeat (first | (with_reducible exact Up.refl _) | (with_reducible assumption) | (with_reducible refine Up.alloc ?_ _) | (with_reducible refine Up.drew ?_) | ((with_reducible refine Up.set ?_ ?_ _); rotate_left; focus (first | omega | (simp; done) | (simp; omega))) | (with_reducible refine Up.drewN ?_ _) | (with_reducible refine Up.call ?_ (by with_reducible assumption))))), by (repeat (first | (with_reducible exact Up.refl _) | (with_reducible assumption) | (with_reducible refine Up.alloc ?_ _) | (with_reducible refine Up.drew ?_) | ((with_reducible refine Up.set ?_ ?_ _); rotate_left; focus (first | omega | (simp; done) | (simp; omega))) | (with_reducible refine Up.drewN ?_ _) | (with_reducible refine Up.call ?_ (by with_reducible assumption))))⟩
                              case measure => have := HJ.out; simp [intOf]; omega
                          · have hjl : ¬ (j : Int) < (L3.length : Int) := by omega
                            obtain rfl : j = L3.length := by omega
                            go_wp2
                            go_meet
                            exact ⟨ez, A, c, x, rfl, rfl, HZ.out, HX.out, HRA.out, hU⟩
                      case rest =>
                        obtain ⟨ez, A, c, x, rfl, rfl, HZ, HX, HRA, hU⟩ := hcut
                        have hsw := HS2.out.since
                        by_cases hz : L3.length = 0
                        · obtain rfl : ez = 5 := by rw [HZ.out, if_pos hz]
                          obtain rfl : x = [] := by rw [← HX.out]; unfold wantG; rw [if_pos hz]
                          have HHE := hid (show hullF (crashF l kp).all = .error 5 by
                            rw [HB3.out.all]
                            cases L3 with
                            | nil => rfl
                            | cons y r => simp at hz)
                          have Hz := hid hz
                          clear hz
                          go_wp2_with (first
                        | ((go_at_call 14; (with_reducible refine (hull_any g v14 (crashF l kp) _ (HS2.out.log.up (by (repeat (first | (with_reducible exact Up.refl _) | (with_reducible assumption) | (with_reducible refine Up.alloc ?_ _) | (with_reducible refine Up.drew ?_) | ((with_reducible refine Up.set ?_ ?_ _); rotate_left; focus (first | omega | (simp; done) | (simp; omega))) | (with_reducible refine Up.drewN ?_ _) | (with_reducible refine Up.call ?_ (by with_reducible assumption))))))).mono ?_); rintro e w40 ⟨x40, v40, hx40, rfl, hv40, hb40⟩ <;> (rw [HHE.out] at hx40; subst hx40; obtain rfl := boxR_error hv40; clear hv40)) <;> (have hle := Up.le hb40; (try simp only [World.size_alloc, World.size_setCell, World.size_drew, World.heap_drewN] at hle); clear hle))
                        | ((go_at_call 10; (with_reducible refine (serr_self 5 _ (HD.out.up (by (repeat (first | (with_reducible exact Up.refl _) | (with_reducible assumption) | (with_reducible refine Up.alloc ?_ _) | (with_reducible refine Up.drew ?_) | ((with_reducible refine Up.set ?_ ?_ _); rotate_left; focus (first | omega | (simp; done) | (simp; omega))) | (with_reducible refine Up.drewN ?_ _) | (with_reducible refine Up.call ?_ (by with_reducible assumption))))))).mono ?_); rintro e w41 ⟨rfl, hb41⟩) <;> (have hle := Up.le hb41; (try simp only [World.size_alloc, World.size_setCell, World.size_drew, World.heap_drewN] at hle); clear hle))
                        | ((go_at_call 25; (with_reducible refine (sbox_nilA A c _).mono ?_); rintro e w42 ⟨rfl, hb42⟩) <;> (have hle := Up.le hb42; (try simp only [World.size_alloc, World.size_setCell, World.size_drew, World.heap_drewN] at hle); clear hle)))
                          go_roundw
                          case rel => exact ⟨ai, ri + 1, Q, v14, crashF l kp, L3, R3, by go_num, by go_num, by omega, by omega, by omega, HB3.out, HS2.out.up (by (repeat (first | (with_reducible exact Up.refl _) | (with_reducible assumption) | (with_reducible refine Up.alloc ?_ _) | (with_reducible refine Up.drew ?_) | ((with_reducible refine Up.set ?_ ?_ _); rotate_left; focus (first | omega | (simp; done) | (simp; omega))) | (with_reducible refine Up.drewN ?_ _) | (with_reducible refine Up.call ?_ (by with_reducible assumption))))), by (repeat (first | (with_reducible exact Up.refl _) | (with_reducible assumption) | (with_reducible refine Up.alloc ?_ _) | (with_reducible refine Up.drew ?_) | ((with_reducible refine Up.set ?_ ?_ _); rotate_left; focus (first | omega | (simp; done) | (simp; omega))) | (with_reducible refine Up.drewN ?_ _) | (with_reducible refine Up.call ?_ (by with_reducible assumption))))⟩
                          case measure => have := HRI.out; simp [intOf]; omega
                        · obtain rfl : ez = 0 := by rw [HZ.out, if_neg hz]
                          have HHO := hid (show hullF (crashF l kp).all = .ok x by rw [HB3.out.all, want_hull (by omega), HX.out])
                          have hxl : x.length = s.toNat := by rw [← HX.out]; exact want_len (fun y hy => (HBX.out y hy).2) _ (by omega) (Nat.le_refl _)
                          have h0 : L3[0]?.getD [] ∈ L3 := by rw [List.getElem?_eq_getElem (by omega)]; exact List.getElem_mem (by omega)
                          have hxf := (HBX.out _ h0).1.few
                          rw [(HBX.out _ h0).2] at hxf
                          have Hxf := hid (show x.length ≤ 9223372036854775807 by omega)
                          have Hz := hid hz
                          clear hz hxl h0 hxf
                          go_wp2_with (first
                        | ((go_at_call 14; (with_reducible refine (hull_any g v14 (crashF l kp) _ (HS2.out.log.up (by (repeat (first | (with_reducible exact Up.refl _) | (with_reducible assumption) | (with_reducible refine Up.alloc ?_ _) | (with_reducible refine Up.drew ?_) | ((with_reducible refine Up.set ?_ ?_ _); rotate_left; focus (first | omega | (simp; done) | (simp; omega))) | (with_reducible refine Up.drewN ?_ _) | (with_reducible refine Up.call ?_ (by with_reducible assumption))))))).mono ?_); rintro e w40 ⟨x40, v40, hx40, rfl, hv40, hb40⟩ <;> (rw [HHO.out] at hx40; subst hx40; obtain ⟨A40, c40, rfl, hr40, hc40, hn40⟩ := boxR_ok hv40; have HR40 := hid hr40; clear hv40 hr40 hn40)) <;> (have hle := Up.le hb40; (try simp only [World.size_alloc, World.size_setCell, World.size_drew, World.heap_drewN] at hle); clear hle))
                        | ((go_at_call 10; (with_reducible refine (serr_nil0 _ (HD.out.up (by (repeat (first | (with_reducible exact Up.refl _) | (with_reducible assumption) | (with_reducible refine Up.alloc ?_ _) | (with_reducible refine Up.drew ?_) | ((with_reducible refine Up.set ?_ ?_ _); rotate_left; focus (first | omega | (simp; done) | (simp; omega))) | (with_reducible refine Up.drewN ?_ _) | (with_reducible refine Up.call ?_ (by with_reducible assumption))))))).mono ?_); rintro e w41 ⟨rfl, hb41⟩) <;> (have hle := Up.le hb41; (try simp only [World.size_alloc, World.size_setCell, World.size_drew, World.heap_drewN] at hle); clear hle))
                        | ((go_at_call 25; (with_reducible refine (sbox_self A40 A x c40 c _ (HR40.out.up (by (repeat (first | (with_reducible exact Up.refl _) | (with_reducible assumption) | (with_reducible refine Up.alloc ?_ _) | (with_reducible refine Up.drew ?_) | ((with_reducible refine Up.set ?_ ?_ _); rotate_left; focus (first | omega | (simp; done) | (simp; omega))) | (with_reducible refine Up.drewN ?_ _) | (with_reducible refine Up.call ?_ (by with_reducible assumption)))))) (HRA.out.up (by (repeat (first | (with_reducible exact Up.refl _) | (with_reducible assumption) | (with_reducible refine Up.alloc ?_ _) | (with_reducible refine Up.drew ?_) | ((with_reducible refine Up.set ?_ ?_ _); rotate_left; focus (first | omega | (simp; done) | (simp; omega))) | (with_reducible refine Up.drewN ?_ _) | (with_reducible refine Up.call ?_ (by with_reducible assumption)))))) Hxf.out).mono ?_); rintro e w42 ⟨rfl, hb42⟩) <;> (have hle := Up.le hb42; (try simp only [World.size_alloc, World.size_setCell, World.size_drew, World.heap_drewN] at hle); clear hle)))
                          go_roundw
                          case rel => exact ⟨ai, ri + 1, Q, v14, crashF l kp, L3, R3, by go_num, by go_num, by omega, by omega, by omega, HB3.out, HS2.out.up (by (repeat (first | (with_reducible exact Up.refl _) | (with_reducible assumption) | (with_reducible refine Up.alloc ?_ _) | (with_reducible refine Up.drew ?_) | ((with_reducible refine Up.set ?_ ?_ _); rotate_left; focus (first | omega | (simp; done) | (simp; omega))) | (with_reducible refine Up.drewN ?_ _) | (with_reducible refine Up.call ?_ (by with_reducible assumption))))), by (repeat (first | (with_reducible exact Up.refl _) | (with_reducible assumption) | (with_reducible refine Up.alloc ?_ _) | (with_reducible refine Up.drew ?_) | ((with_reducible refine Up.set ?_ ?_ _); rotate_left; focus (first | omega | (simp; done) | (simp; omega))) | (with_reducible refine Up.drewN ?_ _) | (with_reducible refine Up.call ?_ (by with_reducible assumption))))⟩
                          case measure => have := HRI.out; simp [intOf]; omega
      · have hB' : ¬ (ri : Int) < 4 := by omega
        have hA' : decide ((ri : Int) ≤ (ff.length : Int)) = true := decide_eq_true (by omega)
        go_wp2
        go_ret
        exact LawEnd.mk rfl hU
    · have hA' : decide ((ri : Int) ≤ (ff.length : Int)) = false := decide_eq_false (by omega)
      go_wp2
      go_ret
      exact LawEnd.mk rfl hU

theorem logKeeps_walk (s : Int) (Al : Option Addr) (ll : List (List Sp)) (cl : Nat) (As : Option Addr) (ss : List Int) (cs : Nat) (Af : Option Addr) (ff : List Int) (cf : Nat) (Ak : Option Addr) (kk : List Int) (ck : Nat) (w : World)
    (hs : I64 s) (hl : LBB w Al ll cl) (hss : LI w As ss cs) (hff : LI w Af ff cf) (hkk : LI w Ak kk ck) (hd : Door4 w) :
    Calls Tryd.prog 6 #[.int .i64 s, .slice Al ll.length cl, .slice As ss.length cs, .slice Af ff.length cf, .slice Ak kk.length ck] w (LawEnd w) := by
  clear hs
  by_cases h : s < 1 ∨ 3 < s
  · exact logKeeps_out s Al ll cl As ss cs Af ff cf Ak kk ck w hd h
  · exact logKeeps_in s Al ll cl As ss cs Af ff cf Ak kk ck w hl hss hff hkk hd (by omega) (by omega)
set_option maxRecDepth 100000 in
theorem logKeeps_lifted (os : Os) (started : os.Started) (H : Type) (enc : TypeId × Value → H) :
    ReturnsInHanded {} Tryd.checked os 6 .any (fun w args => (Rows.logKeepsSpec.pre enc Tryd.prog Tryd.f6 [] false w args ∧ laidMetH Tryd.prog laidL4 w) ∧ sizedMet enc Tryd.prog Tryd.f6 (OpenSpec.ofChange Rows.logKeepsSpec) false w args) (Rows.logKeepsSpec.post enc Tryd.prog Tryd.f6 false true false false) := by
  refine returnsInHanded_of_change_and (C := Tryd.checked) (X := fun w _ => laidMetH Tryd.prog laidL4 w) (fun _ _ _ hh h => h.of_heap hh) Tryd.own started (by kernel_rfl) Tryd.func6
    (ChangeSpec.witness_at (enc := enc) (C := Tryd.checked) (os := os) (X := fun w _ => laidMetH Tryd.prog laidL4 w) false (laidWorld4 os) #[.int .i64 0, .slice none 0 0, .slice none 0 0, .slice none 0 0, .slice none 0 0] 8 rfl (by kernel_rfl) (by kernel_rfl) (by kernel_rfl) (by kernel_rfl) (by kernel_rfl) (laidWorld4_met os _)) ?_
  intro W base args ds gs before hval0 hW _ _ hL _
  have hdoor := door4_of_laid hL
  have hval : ∀ (j : Nat) t v, Tryd.f6.params[j]? = some t → args[j]? = some v → Value.okWide Tryd.prog W .any base t v := hval0
  have hW' := hW
  obtain ⟨p, q, hA0, hV, rfl, hfz, hnd⟩ := hW
  have hA : DataW.TrodAll enc Tryd.prog W 0 (fun _ => true) true Tryd.f6.params.toList args.toList ds p := hA0
  rw [Tryd.params6] at hA hval
  obtain ⟨v0, v1, v2, v3, v4, d0, d1, d2, d3, d4, p0, p1, p2, p3, p4, rfl, rfl, rfl, h0, h1, h2, h3, h4⟩ := trodAll_5 hA
  obtain ⟨rfl, rfl⟩ := trodVars_none hV
  obtain ⟨n0, rfl, w0⟩ := open_i64 Tryd.underlying3 (hval 0 3 _ rfl rfl) h0
  obtain ⟨A1, l1, c1, rfl, w1⟩ := open_boxes (hval 1 39 _ rfl rfl) h1
  obtain ⟨A2, l2, c2, rfl, w2⟩ := open_ilist Tryd.underlying45 Tryd.underlying3 Tryd.cellsInt (hval 2 45 _ rfl rfl) h2
  obtain ⟨A3, l3, c3, rfl, w3⟩ := open_ilist Tryd.underlying45 Tryd.underlying3 Tryd.cellsInt (hval 3 45 _ rfl rfl) h3
  obtain ⟨A4, l4, c4, rfl, w4⟩ := open_ilist Tryd.underlying45 Tryd.underlying3 Tryd.cellsInt (hval 4 45 _ rfl rfl) h4
  clear hA0 hval0
  refine (logKeeps_walk n0 A1 l1 c1 A2 l2 c2 A3 l3 c3 A4 l4 c4 W w0 w1 w2 w3 w4 hdoor).mono fun e W' ⟨he, hu⟩ => ?_
  subst he
  exact ⟨_, rfl, law_post Tryd.laidOut rfl rfl Tryd.underlying4 (fun t ht => by simp [Tryd.params6] at ht; (try rcases ht with rfl | rfl | rfl); all_goals (first | (subst ht; exact ⟨by kernel_rfl, of_decide_eq_true (by kernel_rfl)⟩) | exact ⟨by kernel_rfl, of_decide_eq_true (by kernel_rfl)⟩)) hW' rfl rfl rfl hu⟩
theorem logKeeps_k1 : (Rows.logKeepsRow.inPlace == Tryd.pinned.checked.prog.inPlace 6) = true := by kernel_rfl
theorem logKeeps_k2 : (Rows.logKeepsRow.unfollowed == Tryd.pinned.checked.prog.unfollowed 6) = true := by kernel_rfl
theorem logKeeps_k3 : (Rows.logKeepsRow.recurses == Tryd.pinned.checked.prog.recurses 6) = true := by kernel_rfl
theorem logKeeps_k4 : (Rows.logKeepsRow.named == Tryd.pinned.checked.prog.varsNamed 6) = true := by kernel_rfl
theorem logKeeps_facts : joinedFacts Tryd.pinned.checked.prog 6 Tryd.f6 Rows.logKeepsSpec Rows.logKeepsRow = true :=
  joined_of _ _ _ _ _ Tryd.g1 Tryd.g2 Tryd.g3 Tryd.g4 Tryd.g5 Tryd.g6 Tryd.g7 Tryd.g8 Tryd.g9 logKeeps_k1 logKeeps_k2 logKeeps_k3 logKeeps_k4 (by kernel_rfl)
theorem logKeeps_bare : Rows.LogKeepsSaid :=
  OpenClaim.holds_of_wide 6 Tryd.f6 rfl rfl rfl rfl rfl rfl rfl ⟨rfl, rfl, rfl, rfl, rfl⟩ rfl rfl rfl rfl rfl (by kernel_rfl) Tryd.func6 logKeeps_facts
    (of_decide_eq_true (by kernel_rfl)) (by unfold Func.isWrapper; rw [if_neg (by decide +kernel)]; exact ⟨rfl, rfl⟩)
    (fun os started H enc _ => logKeeps_lifted os started H enc)
theorem logKeeps_holds : Rows.LogKeepsCardSaid :=
  Claim7.holds_tied_plain_at .later [] [.data, .data, .data, .handle] true (true, "81e5e7a0832d8737f58bea7b0b5dc6a3e1fad632e21171769fdfff66c1c4c699") true logKeeps_bare (fun _ h => by cases h) (by kernel_rfl) (fun _ h => by cases h) logKeeps_row_tie rfl ⟨rfl, rfl⟩ door_main rfl
    (fun f fn hf hfn => by
      obtain rfl : f = 6 := Option.some.inj ((show Tryd.prog.funcNamed "spanmeadow/spanlaw3.LogKeeps" = some 6 by kernel_rfl).symm.trans hf) |>.symm
      obtain rfl : fn = Tryd.f6 := (Option.some.inj (Tryd.func6.symm.trans hfn)).symm
      exact ⟨door_looks.symm, fun j t ht => by
        rw [Tryd.params6] at ht
        have hm : t ∈ [3, 39, 45] := by
          have := Array.mem_of_getElem? ht
          simpa using this
        simp only [List.mem_cons, List.not_mem_nil, or_false] at hm
        rcases hm with rfl | rfl | rfl
        · exact (show Tryd.prog.wantsStandIn 3 = false by kernel_rfl)
        · exact (show Tryd.prog.wantsStandIn 39 = false by kernel_rfl)
        · exact (show Tryd.prog.wantsStandIn 45 = false by kernel_rfl)⟩)
    (by kernel_rfl)
#print axioms logKeeps_holds
end Go.Proofs.YtopgjbjpmnlldaaDoor
