/- UnitBetween: what two numbers are times each other, and by each other, lies between both told; a number is read as it was; where a text is of 1048576 bytes at most. -/
import Derived.Test.YtopgjbjpmnlldaaDoorUnq
import Derived.Test.YtopgjbjpmnlldaaDoorDoors
import Derived.Test.YtopgjbjpmnlldaaDoorUpd
import Derived.Test.YtopgjbjpmnlldaaDoorBulk
import Derived.Deep.DeepCutAuto
import Derived.ChangeMaps5

set_option linter.unusedVariables false
set_option linter.unusedSimpArgs false
namespace Go.Proofs.YtopgjbjpmnlldaaDoor
open Go.ChangeShapes Go.WideShapes Go.ChangeAt Go.RowKit Go.Joins Go.Deep



theorem tmod_zero (n : Int) : (n.tmod 1000 == 0) = decide (n % 1000 = 0) := by
  by_cases h : n % 1000 = 0
  · have : n.tmod 1000 = 0 := Int.tmod_eq_zero_of_dvd (Int.dvd_of_emod_eq_zero h)
    rw [this]; simp [h]
  · have : n.tmod 1000 ≠ 0 := fun e => h (Int.emod_eq_zero_of_dvd (Int.dvd_of_tmod_eq_zero e))
    rw [beq_eq_false_iff_ne.2 this]; simp [h]
theorem times_ways (a b : Int) : (∃ n : Nat, ∀ W, Calls Tryd.prog 26 #[.int .i64 a, .int .i64 b] W fun e w' => e = .returned (.tuple #[.int .i64 0, .int .i64 0, .iface 62 (.int .i64 n)]) ∧ Up W w') ∨
    (∃ lo hi : Int, (∀ W, Calls Tryd.prog 26 #[.int .i64 a, .int .i64 b] W fun e w' => e = .returned (.tuple #[.int .i64 lo, .int .i64 hi, .nilIface]) ∧ Up W w') ∧ (M lo ∧ M hi ∧ (-1000000000000000000 ≤ a * b ∧ a * b ≤ 1000000000000000000)) ∧
      decide (a * b < lo * 1000) = false ∧ decide (hi * 1000 < a * b) = false ∧ decide (1 < hi - lo) = false ∧ ((lo = hi ∧ ((a * b).tmod 1000 == 0) = true) ∨ (¬ lo = hi ∧ ((a * b).tmod 1000 == 0) = false))) := by
  have h := fun W => utimes_any a b W
  cases hr : utimesF a b with
  | error n => rw [hr] at h; exact .inl ⟨n, h⟩
  | ok p =>
    obtain ⟨lo, hi⟩ := p
    rw [hr] at h
    obtain ⟨m1, m2, m3, f1, f2, f3, f4⟩ := times_facts hr
    refine .inr ⟨lo, hi, h, ⟨m1, m2, m3⟩, decide_eq_false (by omega), decide_eq_false (by omega), decide_eq_false (by omega), ?_⟩
    rw [tmod_zero]
    by_cases e : lo = hi
    · exact .inl ⟨e, decide_eq_true (f4.1 e)⟩
    · exact .inr ⟨e, decide_eq_false (fun k => e (f4.2 k))⟩
theorem by_ways (a b : Int) : (∃ n : Nat, ∀ W, Calls Tryd.prog 27 #[.int .i64 a, .int .i64 b] W fun e w' => e = .returned (.tuple #[.int .i64 0, .int .i64 0, .iface 62 (.int .i64 n)]) ∧ Up W w') ∨
    (∃ lo hi : Int, (∀ W, Calls Tryd.prog 27 #[.int .i64 a, .int .i64 b] W fun e w' => e = .returned (.tuple #[.int .i64 lo, .int .i64 hi, .nilIface]) ∧ Up W w') ∧ (M a ∧ M lo ∧ M hi ∧ (-1000000000000000000 ≤ lo * b ∧ lo * b ≤ 1000000000000000000) ∧ (-1000000000000000000 ≤ hi * b ∧ hi * b ≤ 1000000000000000000)) ∧ decide (1 < hi - lo) = false ∧ decide (hi < lo) = false ∧
      ((decide (0 < b) = true ∧ decide (b < 0) = false ∧ decide (a * 1000 < lo * b) = false ∧ decide (hi * b < a * 1000) = false) ∨ (decide (0 < b) = false ∧ decide (b < 0) = true ∧ decide (lo * b < a * 1000) = false ∧ decide (a * 1000 < hi * b) = false))) := by
  have h := fun W => uby_any a b W
  cases hr : ubyF a b with
  | error n => rw [hr] at h; exact .inl ⟨n, h⟩
  | ok p =>
    obtain ⟨lo, hi⟩ := p
    rw [hr] at h
    obtain ⟨m1, m2, m3, m4, hb, f1, f2, f3, f4⟩ := by_facts hr
    refine .inr ⟨lo, hi, h, ⟨m1, m3, m4, umul_bd m3 m2, umul_bd m4 m2⟩, decide_eq_false (by omega), decide_eq_false (by omega), ?_⟩
    rcases (show 0 < b ∨ b < 0 by omega) with h0 | h0
    · obtain ⟨g1, g2⟩ := f1 h0
      exact .inl ⟨decide_eq_true h0, decide_eq_false (by omega), decide_eq_false (by omega), decide_eq_false (by omega)⟩
    · obtain ⟨g1, g2⟩ := f2 h0
      exact .inr ⟨decide_eq_false (by omega), decide_eq_true h0, decide_eq_false (by omega), decide_eq_false (by omega)⟩
theorem times_sym (a b : Int) : ∃ (lo hi : Int) (er : Option Nat), (∀ W, Calls Tryd.prog 26 #[.int .i64 a, .int .i64 b] W fun e w' => e = .returned (.tuple #[.int .i64 lo, .int .i64 hi, errV er]) ∧ Up W w') ∧ (er = none → (M lo ∧ M hi ∧ (-1000000000000000000 ≤ a * b ∧ a * b ≤ 1000000000000000000)) ∧
      decide (a * b < lo * 1000) = false ∧ decide (hi * 1000 < a * b) = false ∧ decide (1 < hi - lo) = false ∧ ((lo = hi ∧ ((a * b).tmod 1000 == 0) = true) ∨ (¬ lo = hi ∧ ((a * b).tmod 1000 == 0) = false))) := by
  rcases times_ways a b with ⟨n, h⟩ | ⟨lo, hi, h, k⟩
  · exact ⟨0, 0, some n, h, fun e => by cases e⟩
  · exact ⟨lo, hi, none, h, fun _ => k⟩
theorem by_sym (a b : Int) : ∃ (lo hi : Int) (er : Option Nat), (∀ W, Calls Tryd.prog 27 #[.int .i64 a, .int .i64 b] W fun e w' => e = .returned (.tuple #[.int .i64 lo, .int .i64 hi, errV er]) ∧ Up W w') ∧ (er = none → (M a ∧ M lo ∧ M hi ∧ (-1000000000000000000 ≤ lo * b ∧ lo * b ≤ 1000000000000000000) ∧ (-1000000000000000000 ≤ hi * b ∧ hi * b ≤ 1000000000000000000)) ∧ decide (1 < hi - lo) = false ∧ decide (hi < lo) = false ∧
      ((decide (0 < b) = true ∧ decide (b < 0) = false ∧ decide (a * 1000 < lo * b) = false ∧ decide (hi * b < a * 1000) = false) ∨ (decide (0 < b) = false ∧ decide (b < 0) = true ∧ decide (lo * b < a * 1000) = false ∧ decide (a * 1000 < hi * b) = false))) := by
  rcases by_ways a b with ⟨n, h⟩ | ⟨lo, hi, h, k⟩
  · exact ⟨0, 0, some n, h, fun e => by cases e⟩
  · exact ⟨lo, hi, none, h, fun _ => k⟩
theorem print_sym (a : Int) : ∃ (t : List UInt8) (er : Option Nat), (∀ W, Pow W → Calls Tryd.prog 28 #[.int .i64 a] W fun e w' => e = .returned (.tuple #[.string ⟨t.toArray⟩, errV er]) ∧ Up W w') ∧ (er = none → ∀ W, Pow W → Errs W → Calls Tryd.prog 29 #[.string ⟨t.toArray⟩] W fun e w' => e = .returned (.tuple #[.int .i64 a, .nilIface]) ∧ Up W w') := by
  by_cases h : -1000000000 ≤ a ∧ a ≤ 1000000000
  · refine ⟨textF a, none, fun W hp => ?_, fun _ W hp he => ?_⟩
    · have h1 := print_any a W hp
      rw [show printF a = .ok (textF a) from if_pos h] at h1
      exact h1.mono fun e w' ⟨x, k1, k2, k3⟩ => ⟨by rw [k2, ← k1]; rfl, k3⟩
    · have h1 := parse_any (textF a) (by have := text_len h; omega) W hp he
      rw [parse_textF h] at h1
      exact h1.mono fun e w' ⟨x, k1, k2, k3⟩ => ⟨by rw [k2, ← k1]; rfl, k3⟩
  · refine ⟨[], some 1, fun W hp => ?_, fun e => by cases e⟩
    have h1 := print_any a W hp
    rw [show printF a = .error 1 from if_neg h] at h1
    exact h1.mono fun e w' ⟨x, k1, k2, k3⟩ => ⟨by rw [k2, ← k1]; rfl, k3⟩
theorem parse_sym (s : List UInt8) (hs : s.length ≤ 1048576) : ∃ (n : Int) (er : Option Nat), (∀ W, Pow W → Errs W → Calls Tryd.prog 29 #[.string ⟨s.toArray⟩] W fun e w' => e = .returned (.tuple #[.int .i64 n, errV er]) ∧ Up W w') ∧ (er = none → ∀ W, Pow W → Calls Tryd.prog 28 #[.int .i64 n] W fun e w' => e = .returned (.tuple #[.string ⟨s.toArray⟩, .nilIface]) ∧ Up W w') := by
  have h := fun W hp he => parse_any s hs W hp he
  cases hr : parseF s with
  | error n =>
    rw [hr] at h
    exact ⟨0, some n, fun W hp he => (h W hp he).mono fun e w' ⟨x, k1, k2, k3⟩ => ⟨by rw [k2, ← k1]; rfl, k3⟩, fun e => by cases e⟩
  | ok n =>
    rw [hr] at h
    obtain ⟨e1, -, e2⟩ := parseF_ok hr
    refine ⟨n, none, fun W hp he => (h W hp he).mono fun e w' ⟨x, k1, k2, k3⟩ => ⟨by rw [k2, ← k1]; rfl, k3⟩, fun _ W hp => ?_⟩
    have h1 := print_any n W hp
    rw [show printF n = .ok (textF n) from if_pos e2, e1] at h1
    exact h1.mono fun e w' ⟨x, k1, k2, k3⟩ => ⟨by rw [k2, ← k1]; rfl, k3⟩
theorem fact_call (W : World) : Calls Tryd.prog 26 #[.int .i64 1500, .int .i64 (-3)] W fun e w' => e = .returned (.tuple #[.int .i64 (-5), .int .i64 (-4), .nilIface]) ∧ Up W w' := by
  have h := utimes_any 1500 (-3) W
  rw [fact_times] at h
  exact h
set_option maxRecDepth 100000 in
set_option maxHeartbeats 8000000 in
theorem unitBetween_walk (a b : Int) (s : List UInt8) (w : World) (_h1 : I64 a) (_h2 : I64 b) (_h3 : (⟨s.toArray⟩ : ByteArray).size ≤ maxLen) (hd : DoorS w) (bu : s.length ≤ 1048576) :
    Calls Tryd.prog 7 #[.int .i64 a, .int .i64 b, .string ⟨s.toArray⟩] w (LawEnd w) := by
  clear _h1 _h2 _h3
  have HP := hid hd.pow; have HE := hid hd.errs
  have HF := hid fact_call
  obtain ⟨l1, u1, r1, t0, t1⟩ := times_sym a b
  obtain ⟨l2, u2, r2, b0, b1⟩ := by_sym a b
  obtain ⟨t3, r3, p0, p1⟩ := print_sym a
  obtain ⟨n4, r4, q0, q1⟩ := parse_sym s bu
  have T0 := hid t0; have T1 := hid t1; have B0 := hid b0; have B1 := hid b1; have P0 := hid p0; have P1 := hid p1; have Q0 := hid q0; have Q1 := hid q1
  clear hd t0 t1 b0 b1 p0 p1 q0 q1 bu
  go_enter Tryd.func7, Tryd.ntmps7
  go_upto_region 5 with (first
    | ((go_at_call 26; (with_reducible refine (HF.out _).mono ?_); rintro e w1 ⟨rfl, hb1⟩) <;> (have hle := Up.le hb1; (try simp only [World.size_alloc, World.size_setCell, World.size_drew, World.heap_drewN] at hle); clear hle))
    | ((go_at_call 26; (with_reducible refine (T0.out _).mono ?_); rintro e w2 ⟨rfl, hb2⟩) <;> (have hle := Up.le hb2; (try simp only [World.size_alloc, World.size_setCell, World.size_drew, World.heap_drewN] at hle); clear hle)))
  go_cut [39] (fun t wx => t = .bool r1.isNone ∧ wx = w2)
  case first =>
    as_aux_lemma =>
    cases r1
    all_goals
      go_wp2
      go_meet
      exact ⟨rfl, rfl⟩
  case rest =>
    obtain ⟨rfl, rfl⟩ := hcut
    go_upto_if 39 with fail
    go_cut [] (fun wx => Up w wx)
    case first =>
      as_aux_lemma =>
      cases r1 with
      | none =>
        obtain ⟨⟨⟨j1, j2⟩, ⟨j3, j4⟩, ⟨j5, j6⟩⟩, g1, g2, g3, ⟨rfl, g5⟩ | ⟨g4, g5⟩⟩ := T1.out rfl
        · go_wp2
          go_meet
          exact hb1.call hb2
        · go_wp2
          go_meet
          exact hb1.call hb2
      | some n =>
        go_wp2
        go_meet
        exact hb1.call hb2
    case rest =>
      clear hb1 hb2
      have hU := hcut
      clear hcut
      go_upto_region 9 with (first
        | ((go_at_call 27; (with_reducible refine (B0.out _).mono ?_); rintro e w3 ⟨rfl, hb3⟩) <;> (have hle := Up.le hb3; (try simp only [World.size_alloc, World.size_setCell, World.size_drew, World.heap_drewN] at hle); clear hle)))
      go_cut [79] (fun t wx => t = .bool r2.isNone ∧ wx = w3)
      case first =>
        as_aux_lemma =>
        cases r2
        all_goals
          go_wp2
          go_meet
          exact ⟨rfl, rfl⟩
      case rest =>
        obtain ⟨rfl, rfl⟩ := hcut
        go_upto_if 79 with fail
        go_cut [] (fun wx => Up w wx)
        case first =>
          as_aux_lemma =>
          cases r2 with
          | none =>
            obtain ⟨⟨⟨k1, k2⟩, ⟨k3, k4⟩, ⟨k5, k6⟩, ⟨k7, k8⟩, ⟨k9, k10⟩⟩, e1, e2, ⟨e3, e4, e5, e6⟩ | ⟨e3, e4, e5, e6⟩⟩ := B1.out rfl
            · go_wp2
              go_meet
              exact hU.call hb3
            · go_wp2
              go_meet
              exact hU.call hb3
          | some n =>
            go_wp2
            go_meet
            exact hU.call hb3
        case rest =>
          clear hb3 hU
          have hU := hcut
          clear hcut
          go_upto_region 13 with (first
            | ((go_at_call 28; (with_reducible refine (P0.out _ (HP.out.up (by (repeat (first | (with_reducible exact Up.refl _) | (with_reducible assumption) | (with_reducible refine Up.alloc ?_ _) | (with_reducible refine Up.drew ?_) | ((with_reducible refine Up.set ?_ ?_ _); rotate_left; focus (first | omega | (simp; done) | (simp; omega))) | (with_reducible refine Up.drewN ?_ _) | (with_reducible refine Up.call ?_ (by with_reducible assumption))))))).mono ?_); rintro e w4 ⟨rfl, hb4⟩) <;> (have hle := Up.le hb4; (try simp only [World.size_alloc, World.size_setCell, World.size_drew, World.heap_drewN] at hle); clear hle)))
          go_cut [135] (fun t wx => t = .bool r3.isNone ∧ wx = w4)
          case first =>
            as_aux_lemma =>
            cases r3
            all_goals
              go_wp2
              go_meet
              exact ⟨rfl, rfl⟩
          case rest =>
            obtain ⟨rfl, rfl⟩ := hcut
            have hU4 := hU.call hb4
            clear hU hb4
            go_upto_if 135 with fail
            go_cut [] (fun wx => Up w wx)
            case first =>
              as_aux_lemma =>
              cases r3 with
              | none =>
                have P2 := hid (P1.out rfl)
                go_wp2_with (first
                        | ((go_at_call 29; (with_reducible refine (P2.out _ (HP.out.up (by (repeat (first | (with_reducible exact Up.refl _) | (with_reducible assumption) | (with_reducible refine Up.alloc ?_ _) | (with_reducible refine Up.drew ?_) | ((with_reducible refine Up.set ?_ ?_ _); rotate_left; focus (first | omega | (simp; done) | (simp; omega))) | (with_reducible refine Up.drewN ?_ _) | (with_reducible refine Up.call ?_ (by with_reducible assumption)))))) (HE.out.up (by (repeat (first | (with_reducible exact Up.refl _) | (with_reducible assumption) | (with_reducible refine Up.alloc ?_ _) | (with_reducible refine Up.drew ?_) | ((with_reducible refine Up.set ?_ ?_ _); rotate_left; focus (first | omega | (simp; done) | (simp; omega))) | (with_reducible refine Up.drewN ?_ _) | (with_reducible refine Up.call ?_ (by with_reducible assumption))))))).mono ?_); rintro e w5 ⟨rfl, hb5⟩) <;> (have hle := Up.le hb5; (try simp only [World.size_alloc, World.size_setCell, World.size_drew, World.heap_drewN] at hle); clear hle)))
                go_meet
                exact hU4.call hb5
              | some n =>
                go_wp2
                go_meet
                exact hU4
            case rest =>
              clear hU4
              have hU := hcut
              clear hcut
              cases r4 with
              | none =>
                have Q2 := hid (Q1.out rfl)
                go_wp2_with (first
                        | ((go_at_call 29; (with_reducible refine (Q0.out _ (HP.out.up (by (repeat (first | (with_reducible exact Up.refl _) | (with_reducible assumption) | (with_reducible refine Up.alloc ?_ _) | (with_reducible refine Up.drew ?_) | ((with_reducible refine Up.set ?_ ?_ _); rotate_left; focus (first | omega | (simp; done) | (simp; omega))) | (with_reducible refine Up.drewN ?_ _) | (with_reducible refine Up.call ?_ (by with_reducible assumption)))))) (HE.out.up (by (repeat (first | (with_reducible exact Up.refl _) | (with_reducible assumption) | (with_reducible refine Up.alloc ?_ _) | (with_reducible refine Up.drew ?_) | ((with_reducible refine Up.set ?_ ?_ _); rotate_left; focus (first | omega | (simp; done) | (simp; omega))) | (with_reducible refine Up.drewN ?_ _) | (with_reducible refine Up.call ?_ (by with_reducible assumption))))))).mono ?_); rintro e w6 ⟨rfl, hb6⟩) <;> (have hle := Up.le hb6; (try simp only [World.size_alloc, World.size_setCell, World.size_drew, World.heap_drewN] at hle); clear hle))
                        | ((go_at_call 28; (with_reducible refine (Q2.out _ (HP.out.up (by (repeat (first | (with_reducible exact Up.refl _) | (with_reducible assumption) | (with_reducible refine Up.alloc ?_ _) | (with_reducible refine Up.drew ?_) | ((with_reducible refine Up.set ?_ ?_ _); rotate_left; focus (first | omega | (simp; done) | (simp; omega))) | (with_reducible refine Up.drewN ?_ _) | (with_reducible refine Up.call ?_ (by with_reducible assumption))))))).mono ?_); rintro e w7 ⟨rfl, hb7⟩) <;> (have hle := Up.le hb7; (try simp only [World.size_alloc, World.size_setCell, World.size_drew, World.heap_drewN] at hle); clear hle)))
                go_ret
                exact LawEnd.mk (by first | rfl | (simp; done)) (by (repeat (first | (with_reducible exact Up.refl _) | (with_reducible assumption) | (with_reducible refine Up.alloc ?_ _) | (with_reducible refine Up.drew ?_) | ((with_reducible refine Up.set ?_ ?_ _); rotate_left; focus (first | omega | (simp; done) | (simp; omega))) | (with_reducible refine Up.drewN ?_ _) | (with_reducible refine Up.call ?_ (by with_reducible assumption)))))
              | some n =>
                go_wp2_with (first
                        | ((go_at_call 29; (with_reducible refine (Q0.out _ (HP.out.up (by (repeat (first | (with_reducible exact Up.refl _) | (with_reducible assumption) | (with_reducible refine Up.alloc ?_ _) | (with_reducible refine Up.drew ?_) | ((with_reducible refine Up.set ?_ ?_ _); rotate_left; focus (first | omega | (simp; done) | (simp; omega))) | (with_reducible refine Up.drewN ?_ _) | (with_reducible refine Up.call ?_ (by with_reducible assumption)))))) (HE.out.up (by (repeat (first | (with_reducible exact Up.refl _) | (with_reducible assumption) | (with_reducible refine Up.alloc ?_ _) | (with_reducible refine Up.drew ?_) | ((with_reducible refine Up.set ?_ ?_ _); rotate_left; focus (first | omega | (simp; done) | (simp; omega))) | (with_reducible refine Up.drewN ?_ _) | (with_reducible refine Up.call ?_ (by with_reducible assumption))))))).mono ?_); rintro e w6 ⟨rfl, hb6⟩) <;> (have hle := Up.le hb6; (try simp only [World.size_alloc, World.size_setCell, World.size_drew, World.heap_drewN] at hle); clear hle)))
                go_ret
                exact LawEnd.mk (by first | rfl | (simp; done)) (by (repeat (first | (with_reducible exact Up.refl _) | (with_reducible assumption) | (with_reducible refine Up.alloc ?_ _) | (with_reducible refine Up.drew ?_) | ((with_reducible refine Up.set ?_ ?_ _); rotate_left; focus (first | omega | (simp; done) | (simp; omega))) | (with_reducible refine Up.drewN ?_ _) | (with_reducible refine Up.call ?_ (by with_reducible assumption)))))
set_option maxRecDepth 100000 in
theorem unitBetween_lifted (os : Os) (started : os.Started) (H : Type) (enc : TypeId × Value → H) (F : Stop.Interp) :
    ReturnsInHanded {} Tryd.checked os 7 .any (fun w args => ((Rows.OpenSpec.upto Rows.unitBetweenSpec).pre enc Tryd.prog Tryd.f7 [] false w args ∧ laidMetH Tryd.prog laidU5 w) ∧ sizedMet enc Tryd.prog Tryd.f7 (Rows.OpenSpec.upto Rows.unitBetweenSpec) false w args) (((Rows.OpenSpec.upto Rows.unitBetweenSpec).at F).post enc Tryd.prog Tryd.f7 false true false false) := by
  refine lift_cond_and (C := Tryd.checked) (s := (Rows.OpenSpec.upto Rows.unitBetweenSpec)) (k := Rows.uptoSmall) rfl (X := fun w _ => laidMetH Tryd.prog laidU5 w) (fun _ _ _ hh h => h.of_heap hh) Tryd.own started (by kernel_rfl) Tryd.func7
    (witness_cond_at (enc := enc) (C := Tryd.checked) (os := os) (s := (Rows.OpenSpec.upto Rows.unitBetweenSpec)) (k := Rows.uptoSmall) rfl (X := fun w _ => laidMetH Tryd.prog laidU5 w) false (laidWorldS os) #[.int .i64 0, .int .i64 0, .string ⟨#[]⟩] 8 rfl (by kernel_rfl) (by kernel_rfl) (by kernel_rfl) (x := ([.lit (.int .i64 0), .lit (.int .i64 0), .lit (.string [])], [], [])) (by kernel_rfl) rfl (by kernel_rfl) (sizedMet_of_sizedB (s := Rows.unitBetweenSpec) (fuel := 8) (by kernel_rfl)) (laidWorldS_met os _)) ?_
  intro W base args ds gs before hval0 hW _ hk hL _
  have hdoor := doorS_of_laid hL
  have hval : ∀ (j : Nat) t v, Tryd.f7.params[j]? = some t → args[j]? = some v → Value.okWide Tryd.prog W .any base t v := hval0
  have hW' := hW
  obtain ⟨p, q, hA0, hV, rfl, hfz, hnd⟩ := hW
  have hA : DataW.TrodAll enc Tryd.prog W 0 (fun _ => true) true Tryd.f7.params.toList args.toList ds p := hA0
  rw [Tryd.params7] at hA hval
  obtain ⟨v0, v1, v2, d0, d1, d2, p0, p1, p2, rfl, rfl, rfl, h0, h1, h2⟩ := trodAll_three hA
  obtain ⟨rfl, rfl⟩ := trodVars_none hV
  obtain ⟨n0, rfl, w0⟩ := open_i64 Tryd.underlying3 (hval 0 3 _ rfl rfl) h0
  obtain ⟨n1, rfl, w1⟩ := open_i64 Tryd.underlying3 (hval 1 3 _ rfl rfl) h1
  obtain ⟨z2, rfl, e2, f2, w2⟩ := Go.ChangeMaps.open_string Tryd.underlying9 (hval 2 9 _ rfl rfl) h2
  obtain ⟨l2, rfl⟩ : ∃ l : List UInt8, z2 = ⟨l.toArray⟩ := ⟨z2.data.toList, by cases z2; rfl⟩
  (try subst e2)
  have hsm : Rows.uptoBulkAll _ ≤ 1048576 := of_decide_eq_true hk
  simp only [List.append_nil, Rows.uptoBulkAll] at hsm
  have bu2 : l2.length ≤ 1048576 := by have h9 := hsm; simp [Rows.uptoBulk] at h9; omega
  clear hA0 hval0
  refine (unitBetween_walk n0 n1 l2 W w0 w1 w2 hdoor bu2).mono fun e W' ⟨he, hu⟩ => ?_
  subst he
  exact ⟨_, rfl, law_post Tryd.laidOut rfl rfl Tryd.underlying4 (fun t ht => by simp [Tryd.params7] at ht; (try rcases ht with rfl | rfl); all_goals (first | (subst ht; exact ⟨by kernel_rfl, of_decide_eq_true (by kernel_rfl)⟩) | exact ⟨by kernel_rfl, of_decide_eq_true (by kernel_rfl)⟩)) hW' rfl rfl rfl hu⟩
theorem unitBetween_k1 : (Rows.unitBetweenUptoRow.inPlace == Tryd.pinned.checked.prog.inPlace 7) = true := by kernel_rfl
theorem unitBetween_k2 : (Rows.unitBetweenUptoRow.unfollowed == Tryd.pinned.checked.prog.unfollowed 7) = true := by kernel_rfl
theorem unitBetween_k3 : (Rows.unitBetweenUptoRow.recurses == Tryd.pinned.checked.prog.recurses 7) = true := by kernel_rfl
theorem unitBetween_k4 : (Rows.unitBetweenUptoRow.named == Tryd.pinned.checked.prog.varsNamed 7) = true := by kernel_rfl
theorem unitBetween_facts : joinedFacts Tryd.pinned.checked.prog 7 Tryd.f7 (Rows.OpenSpec.upto Rows.unitBetweenSpec).bare Rows.unitBetweenUptoRow = true :=
  joined_of _ _ _ _ _ Tryd.g1 Tryd.g2 Tryd.g3 Tryd.g4 Tryd.g5 Tryd.g6 Tryd.g7 Tryd.g8 Tryd.g9 unitBetween_k1 unitBetween_k2 unitBetween_k3 unitBetween_k4 (by kernel_rfl)
theorem unitBetween_bare : Rows.UnitBetweenUptoSaid :=
  OpenClaim.holds_of_cond 7 Tryd.f7 rfl rfl rfl rfl rfl rfl rfl ⟨rfl, rfl, rfl, rfl, rfl⟩ rfl rfl rfl rfl rfl (by kernel_rfl) Tryd.func7 unitBetween_facts
    (of_decide_eq_true (by kernel_rfl)) (by unfold Func.isWrapper; rw [if_neg (by decide +kernel)]; exact ⟨rfl, rfl⟩)
    (fun os started H enc _ F => unitBetween_lifted os started H enc F)
theorem unitBetween_holds : Rows.UnitBetweenUptoCardSaid :=
  Claim7.holds_tied_plain_at .later [] [.data, .data, .data, .sentinel, .sentinel] true (true, "81e5e7a0832d8737f58bea7b0b5dc6a3e1fad632e21171769fdfff66c1c4c699") true unitBetween_bare (fun _ h => by cases h) (by kernel_rfl) (fun _ h => by cases h) unitBetweenUpto_row_tie rfl ⟨rfl, rfl⟩ door_main rfl
    (fun f fn hf hfn => by
      obtain rfl : f = 7 := Option.some.inj ((show Tryd.prog.funcNamed "spanmeadow/spanlaw1.UnitBetween" = some 7 by kernel_rfl).symm.trans hf) |>.symm
      obtain rfl : fn = Tryd.f7 := (Option.some.inj (Tryd.func7.symm.trans hfn)).symm
      exact ⟨door_looks.symm, fun j t ht => by
        rw [Tryd.params7] at ht
        have hm : t ∈ [3, 9] := by
          have := Array.mem_of_getElem? ht
          simpa using this
        simp only [List.mem_cons, List.not_mem_nil, or_false] at hm
        rcases hm with rfl | rfl
        · exact (show Tryd.prog.wantsStandIn 3 = false by kernel_rfl)
        · exact (show Tryd.prog.wantsStandIn 9 = false by kernel_rfl)⟩)
    (by kernel_rfl)
#print axioms unitBetween_holds
end Go.Proofs.YtopgjbjpmnlldaaDoor
