/- NarrowKeeps: what goes together of three spans keeps the numbers that go together, sums and products. -/
import Derived.Test.YtomfbhohaiffpaaDoorLdib
import Derived.Test.YtomfbhohaiffpaaDoorRow
import Derived.Test.YtomfbhohaiffpaaDoorLdb
import Derived.Deep.DeepCutAuto
import Derived.BigGuard

set_option linter.unusedVariables false
set_option linter.unusedSimpArgs false
namespace Go.Proofs.YtomfbhohaiffpaaDoor
open Go.ChangeShapes Go.WideShapes Go.ChangeAt Go.RowKit Go.Joins Go.Deep

theorem fact_nsum : nsumF ⟨0, 5⟩ ⟨0, 5⟩ ⟨8, 20⟩ = .ok (⟨3, 5⟩, ⟨3, 5⟩, ⟨8, 10⟩) := by rfl
theorem btwT (z1 z2 a b : Int) : ∃ b' : Bool, ((((a * b).tmod 1000 == 0) = false ∧ b' = false) ∨ (((a * b).tmod 1000 == 0) = true ∧ decide (z1 ≤ (a * b).tdiv 1000) = false ∧ b' = false) ∨
    (((a * b).tmod 1000 == 0) = true ∧ decide (z1 ≤ (a * b).tdiv 1000) = true ∧ decide ((a * b).tdiv 1000 ≤ z2) = false ∧ b' = false) ∨
    (((a * b).tmod 1000 == 0) = true ∧ decide (z1 ≤ (a * b).tdiv 1000) = true ∧ decide ((a * b).tdiv 1000 ≤ z2) = true ∧ b' = true)) ∧
    (b' = true → a * b = 1000 * (a * b).tdiv 1000 ∧ z1 ≤ (a * b).tdiv 1000 ∧ (a * b).tdiv 1000 ≤ z2) := by
  have hm := Int.mul_tdiv_add_tmod (a * b) 1000
  generalize (a * b).tdiv 1000 = c at *
  generalize (a * b).tmod 1000 = m at *
  by_cases h0 : m = 0
  · by_cases h1 : z1 ≤ c
    · by_cases h2 : c ≤ z2
      · exact ⟨true, .inr (.inr (.inr ⟨beq_iff_eq.2 h0, decide_eq_true h1, decide_eq_true h2, rfl⟩)), fun _ => ⟨by omega, h1, h2⟩⟩
      · exact ⟨false, .inr (.inr (.inl ⟨beq_iff_eq.2 h0, decide_eq_true h1, decide_eq_false h2, rfl⟩)), fun h => by cases h⟩
    · exact ⟨false, .inr (.inl ⟨beq_iff_eq.2 h0, decide_eq_false h1, rfl⟩), fun h => by cases h⟩
  · exact ⟨false, .inl ⟨beq_eq_false_iff_ne.2 h0, rfl⟩, fun h => by cases h⟩
theorem tdivn_bd {n : Int} (h1 : -1000000000000000000 ≤ n) (h2 : n ≤ 1000000000000000000) : -1000000000000000000 ≤ n.tdiv 1000 ∧ n.tdiv 1000 ≤ 1000000000000000000 := by
  have := Int.natAbs_tdiv n 1000
  have h3 : (n.tdiv 1000).natAbs ≤ n.natAbs := by rw [this]; exact Nat.div_le_self _ _
  omega
/-- The arguments' own cells, and the three results' boxes. -/
def N3 (w w1 : World) (x y z p q r : Sp) (wx : World) : Prop :=
  N0 w x y z wx ∧ C2 wx w1.heap.size p ∧ C2 wx (w1.heap.size + 1) q ∧ C2 wx (w1.heap.size + 1 + 1) r
theorem N3.up {w w1 wx wy : World} {x y z p q r : Sp} (h : N3 w w1 x y z p q r wx) (hu : Up wx wy) : N3 w w1 x y z p q r wy :=
  ⟨h.1.up hu, h.2.1.up hu, h.2.2.1.up hu, h.2.2.2.up hu⟩
theorem N3.put3 {w w1 W : World} {x y z p q r : Sp} (hA : w.heap.size + 1 + 1 < w1.heap.size) (h : N3 w w1 x y z p q r W) (a b c d e f : Int) :
    N3 w w1 x y z ⟨a, b⟩ ⟨c, d⟩ ⟨e, f⟩ ((((((W.setCell ⟨w1.heap.size, 0, none⟩ (.int .i64 a)).setCell ⟨w1.heap.size, 1, none⟩ (.int .i64 b)).setCell ⟨w1.heap.size + 1, 0, none⟩ (.int .i64 c)).setCell ⟨w1.heap.size + 1, 1, none⟩ (.int .i64 d)).setCell ⟨w1.heap.size + 1 + 1, 0, none⟩ (.int .i64 e)).setCell ⟨w1.heap.size + 1 + 1, 1, none⟩ (.int .i64 f)) :=
  ⟨((h.1.far (by omega) _ _).far (by omega) _ _).far (by omega) _ _, ((h.2.1.put a b).far (by omega) _ _).far (by omega) _ _, (((h.2.2.1.far (by omega) _ _).put c d).far (by omega) _ _), ((h.2.2.2.far (by omega) _ _).far (by omega) _ _).put e f⟩
theorem sum_told {x y z A B C : Sp} {a b : Int} {bS : Bool} {E : Option Nat} (hI : Is3 (nsumF x y z) A B C E) (hc : check3F x y z = none) (hx : Has1 x a) (hy : Has1 y b) (hS : bS = true → Has1 z (a + b)) :
    (bS = true → decide (numO E = 5) = false) ∧ ((∃ n, E = some n) ∨ (E = none ∧ (decide (A.lo < x.lo) = false ∧ decide (x.hi < A.hi) = false ∧ decide (B.lo < y.lo) = false ∧ decide (y.hi < B.hi) = false ∧ decide (C.lo < z.lo) = false ∧ decide (z.hi < C.hi) = false) ∧
      (bS = true → decide (a < A.lo) = false ∧ decide (A.hi < a) = false ∧ decide (b < B.lo) = false ∧ decide (B.hi < b) = false ∧ decide (a + b < C.lo) = false ∧ decide (C.hi < a + b) = false))) := by
  cases h : nsumF x y z with
  | error n =>
    obtain ⟨rfl, -⟩ := hI.bad h
    refine ⟨fun hs => decide_eq_false fun e => ?_, .inl ⟨n, rfl⟩⟩
    obtain rfl : n = 5 := by rw [numO_some] at e; omega
    exact (nsum_keeps hc hx hy (hS hs)).1 h
  | ok t =>
    obtain ⟨p, q, r⟩ := t
    obtain ⟨rfl, rfl, rfl, rfl⟩ := hI.ok rfl h
    obtain ⟨⟨s1, s2⟩, ⟨s3, s4⟩, ⟨s5, s6⟩⟩ := nsum_sub h
    refine ⟨fun _ => rfl, .inr ⟨rfl, ⟨decide_eq_false (by omega), decide_eq_false (by omega), decide_eq_false (by omega), decide_eq_false (by omega), decide_eq_false (by omega), decide_eq_false (by omega)⟩, fun hs => ?_⟩⟩
    obtain ⟨⟨k1, k2⟩, ⟨k3, k4⟩, ⟨k5, k6⟩⟩ := (nsum_keeps hc hx hy (hS hs)).2 _ _ _ h
    exact ⟨decide_eq_false (by omega), decide_eq_false (by omega), decide_eq_false (by omega), decide_eq_false (by omega), decide_eq_false (by omega), decide_eq_false (by omega)⟩
theorem times_told {x y z A B C : Sp} {a b c : Int} {bT : Bool} {E : Option Nat} (hI : Is3 (ntimesF x y z) A B C E) (hc : check3F x y z = none) (hx : Has1 x a) (hy : Has1 y b) (hT : bT = true → a * b = 1000 * c ∧ z.lo ≤ c ∧ c ≤ z.hi) :
    (bT = true → decide (numO E = 5) = false) ∧ ((∃ n, E = some n) ∨ (E = none ∧ (decide (x.lo ≤ A.lo) = true ∧ decide (A.hi ≤ x.hi) = true ∧ decide (y.lo ≤ B.lo) = true ∧ decide (B.hi ≤ y.hi) = true ∧ decide (z.lo ≤ C.lo) = true ∧ decide (C.hi ≤ z.hi) = true) ∧
      (bT = true → decide (A.lo ≤ a) = true ∧ decide (a ≤ A.hi) = true ∧ decide (B.lo ≤ b) = true ∧ decide (b ≤ B.hi) = true ∧ decide (C.lo ≤ c) = true ∧ decide (c ≤ C.hi) = true))) := by
  cases h : ntimesF x y z with
  | error n =>
    obtain ⟨rfl, -⟩ := hI.bad h
    refine ⟨fun hs => decide_eq_false fun e => ?_, .inl ⟨n, rfl⟩⟩
    obtain rfl : n = 5 := by rw [numO_some] at e; omega
    obtain ⟨t1, t2, t3⟩ := hT hs
    exact (ntimes_keeps hc hx hy ⟨t2, t3⟩ t1).1 h
  | ok t =>
    obtain ⟨p, q, r⟩ := t
    obtain ⟨rfl, rfl, rfl, rfl⟩ := hI.ok rfl h
    obtain ⟨⟨s1, s2⟩, ⟨s3, s4⟩, ⟨s5, s6⟩⟩ := ntimes_sub h
    refine ⟨fun _ => rfl, .inr ⟨rfl, ⟨decide_eq_true (by omega), decide_eq_true (by omega), decide_eq_true (by omega), decide_eq_true (by omega), decide_eq_true (by omega), decide_eq_true (by omega)⟩, fun hs => ?_⟩⟩
    obtain ⟨t1, t2, t3⟩ := hT hs
    obtain ⟨⟨k1, k2⟩, ⟨k3, k4⟩, ⟨k5, k6⟩⟩ := (ntimes_keeps hc hx hy ⟨t2, t3⟩ t1).2 _ _ _ h
    exact ⟨decide_eq_true (by omega), decide_eq_true (by omega), decide_eq_true (by omega), decide_eq_true (by omega), decide_eq_true (by omega), decide_eq_true (by omega)⟩
/-- What the law asks of its arguments. -/
def Asks (x1 x2 y1 y2 z1 z2 a b : Int) : Prop := checkF ⟨x1, x2⟩ = none ∧ checkF ⟨y1, y2⟩ = none ∧ checkF ⟨z1, z2⟩ = none ∧ x1 ≤ a ∧ a ≤ x2 ∧ y1 ≤ b ∧ b ≤ y2
theorem asks_or (x1 x2 y1 y2 z1 z2 a b : Int) : ∃ t : Bool, (t = false ∧ Asks x1 x2 y1 y2 z1 z2 a b) ∨ (t = true ∧ ¬ Asks x1 x2 y1 y2 z1 z2 a b) := by
  by_cases h : Asks x1 x2 y1 y2 z1 z2 a b
  · exact ⟨false, .inl ⟨rfl, h⟩⟩
  · exact ⟨true, .inr ⟨rfl, h⟩⟩





set_option maxRecDepth 100000 in
set_option maxHeartbeats 32000000 in
theorem narrowKeeps_walk (x1 x2 y1 y2 z1 z2 a b : Int) (w : World) (_h1 : I64 x1 ∧ I64 x2) (_h2 : I64 y1 ∧ I64 y2) (_h3 : I64 z1 ∧ I64 z2) (_h4 : I64 a) (_h5 : I64 b) (hd : Door w) :
    Calls Tryd.prog 4 #[.agg #[.int .i64 x1, .int .i64 x2], .agg #[.int .i64 y1, .int .i64 y2], .agg #[.int .i64 z1, .int .i64 z2], .int .i64 a, .int .i64 b] w (LawEnd w) := by
  have Hd := hid hd
  clear _h1 _h2 _h3 _h4 _h5 hd
  have HF := hid fact_nsum
  have HSF := hid (fun W => (nsum_any ⟨0, 5⟩ ⟨0, 5⟩ ⟨8, 20⟩ W : Calls Tryd.prog 10 #[.agg #[.int .i64 0, .int .i64 5], .agg #[.int .i64 0, .int .i64 5], .agg #[.int .i64 8, .int .i64 20]] W (RetX sp3R (nsumF ⟨0, 5⟩ ⟨0, 5⟩ ⟨8, 20⟩) W)))
  obtain ⟨A, B, C, E, hS, hC⟩ := sp3_is (fun w => nsum_any ⟨x1, x2⟩ ⟨y1, y2⟩ ⟨z1, z2⟩ w)
  have HS := hid hS; have HC := hid hC
  obtain ⟨A2, B2, C2', E2, hS2, hC2⟩ := sp3_is (fun w => ntimes_any ⟨x1, x2⟩ ⟨y1, y2⟩ ⟨z1, z2⟩ w)
  have HS2 := hid hS2; have HC2 := hid hC2
  clear hS hC hS2 hC2
  obtain ⟨tn, htn⟩ := asks_or x1 x2 y1 y2 z1 z2 a b
  have HTN := hid htn
  clear htn
  go_enter Tryd.func4, Tryd.ntmps4
  dsimp only [List.append]
  go_upto_region 2 with (first
    | ((go_at_call 10; (with_reducible refine (HSF.out _).mono ?_); rintro e w1 ⟨t1, ht1, rfl, hb1⟩ <;> (rw [HF.out] at ht1; subst ht1)) <;> (have hle := Up.le hb1; (try simp only [World.size_alloc, World.size_setCell, World.size_drew, World.heap_drewN] at hle); (first | (apply bk hb1 (w.heap.size); (focus (go_simp; rfl)); (focus (go_simp; rfl)); (focus (intro o; go_simp)); (try clear c_0_0 c_0_1 f_0); intro c_0_0 c_0_1 f_0 _) | (apply bj hb1 (w.heap.size); (focus (go_simp; rfl)); (focus (go_simp; rfl)); (focus (go_simp; done)); (focus (go_simp; done)); (try clear c_0_0 c_0_1 g_0_0 g_0_1); intro c_0_0 c_0_1 g_0_0 g_0_1 _) | skip); (first | (apply bk hb1 (w.heap.size + 1); (focus (go_simp; rfl)); (focus (go_simp; rfl)); (focus (intro o; go_simp)); (try clear c_1_0 c_1_1 f_1); intro c_1_0 c_1_1 f_1 _) | (apply bj hb1 (w.heap.size + 1); (focus (go_simp; rfl)); (focus (go_simp; rfl)); (focus (go_simp; done)); (focus (go_simp; done)); (try clear c_1_0 c_1_1 g_1_0 g_1_1); intro c_1_0 c_1_1 g_1_0 g_1_1 _) | skip); (first | (apply bk hb1 (w.heap.size + 1 + 1); (focus (go_simp; rfl)); (focus (go_simp; rfl)); (focus (intro o; go_simp)); (try clear c_2_0 c_2_1 f_2); intro c_2_0 c_2_1 f_2 _) | (apply bj hb1 (w.heap.size + 1 + 1); (focus (go_simp; rfl)); (focus (go_simp; rfl)); (focus (go_simp; done)); (focus (go_simp; done)); (try clear c_2_0 c_2_1 g_2_0 g_2_1); intro c_2_0 c_2_1 g_2_0 g_2_1 _) | skip); clear hle)))
  have hA : w.heap.size + 1 + 1 < w1.heap.size := by omega
  have hA := hid hA
  have CX : C2 w1 w.heap.size ⟨x1, x2⟩ := C2.mk (((bcell hb1).1 _ _ (by first | (simp; done) | (simp; omega))).trans (by first | (go_simp; done) | (go_simp; rfl))) (((bcell hb1).2 _ _ (by first | (simp; done) | (simp; omega))).trans (by first | (go_simp; done) | (go_simp; rfl))) (((bcell hb1).1 _ _ (by first | (simp; done) | (simp; omega))).trans (by first | (go_simp; done) | (go_simp; rfl))) (((bcell hb1).2 _ _ (by first | (simp; done) | (simp; omega))).trans (by first | (go_simp; done) | (go_simp; rfl)))
  have HCX := hid CX
  go_cut [44] from 28 to 44 (fun t wx => t = .bool false ∧ N3 w w1 ⟨x1, x2⟩ ⟨y1, y2⟩ ⟨z1, z2⟩ ⟨3, 5⟩ ⟨3, 5⟩ ⟨8, 10⟩ wx)
  case first =>
    as_aux_lemma =>
    go_wp2
    go_meet
    exact ⟨rfl, ⟨⟨by (repeat (first | (with_reducible exact Up.refl _) | (with_reducible assumption) | (with_reducible refine Up.alloc ?_ _) | (with_reducible refine Up.drew ?_) | ((with_reducible refine Up.set ?_ ?_ _); rotate_left; focus (first | omega | (simp; done) | (simp; omega))) | (with_reducible refine Up.drewN ?_ _) | (with_reducible refine Up.call ?_ (by with_reducible assumption)))), HCX.out.up (by (repeat (first | (with_reducible exact Up.refl _) | (with_reducible assumption) | (with_reducible refine Up.alloc ?_ _) | (with_reducible refine Up.drew ?_) | ((with_reducible refine Up.set ?_ ?_ _); rotate_left; focus (first | omega | (simp; done) | (simp; omega))) | (with_reducible refine Up.drewN ?_ _) | (with_reducible refine Up.call ?_ (by with_reducible assumption))))), (C2.mk (by go_simp) (by go_simp) (by go_simp) (by go_simp)), (C2.mk (by go_simp) (by go_simp) (by go_simp) (by go_simp))⟩, (C2.mk (by go_simp) (by go_simp) (by go_simp) (by go_simp)), (C2.mk (by go_simp) (by go_simp) (by go_simp) (by go_simp)), (C2.mk (by go_simp) (by go_simp) (by go_simp) (by go_simp))⟩⟩
  case rest =>
  obtain ⟨rfl, HN⟩ := hcut
  go_upto_region 4 with fail
  go_cut [81] from 45 to 81 (fun t wx => t = .bool tn ∧ N3 w w1 ⟨x1, x2⟩ ⟨y1, y2⟩ ⟨z1, z2⟩ ⟨3, 5⟩ ⟨3, 5⟩ ⟨8, 10⟩ wx)
  case first =>
    as_aux_lemma =>
    have hh := HN; have hU := hh.1.1; have c0 := hh.1.2.1.1.1; have c1 := hh.1.2.1.2.1; have c2 := hh.1.2.2.1.1.1; have c3 := hh.1.2.2.1.2.1; have c4 := hh.1.2.2.2.1.1; have c5 := hh.1.2.2.2.2.1; have d0 := hh.2.1.1.1; have d1 := hh.2.1.2.1; have d2 := hh.2.2.1.1.1; have d3 := hh.2.2.1.2.1; have d4 := hh.2.2.2.1.1; have d5 := hh.2.2.2.2.1; (try dsimp only at c0 c1 c2 c3 c4 c5 d0 d1 d2 d3 d4 d5); clear hh
    cases hx : checkF ⟨x1, x2⟩ with
    | some e =>
      have HT := hid (show tn = true by rcases HTN.out with ⟨_, h⟩ | ⟨h, _⟩; exact absurd h.1 (by rw [hx]; simp); exact h)
      have Hx := hid hx
      clear hx
      go_wp2_with (first
                        | (go_at_call 16; (with_reducible refine (check_any x1 x2 _).mono ?_); rintro e w2 ⟨t2, ht2, rfl, hb2⟩; rw [Hx.out] at ht2; subst ht2; have HN2 := HN.up hb2; clear hU c0 c1 c2 c3 c4 c5 d0 d1 d2 d3 d4 d5; have hh := HN2; have hU := hh.1.1; have c0 := hh.1.2.1.1.1; have c1 := hh.1.2.1.2.1; have c2 := hh.1.2.2.1.1.1; have c3 := hh.1.2.2.1.2.1; have c4 := hh.1.2.2.2.1.1; have c5 := hh.1.2.2.2.2.1; have d0 := hh.2.1.1.1; have d1 := hh.2.1.2.1; have d2 := hh.2.2.1.1.1; have d3 := hh.2.2.1.2.1; have d4 := hh.2.2.2.1.1; have d5 := hh.2.2.2.2.1; (try dsimp only at c0 c1 c2 c3 c4 c5 d0 d1 d2 d3 d4 d5); clear hh))
      go_meet
      exact ⟨by rw [HT.out], HN2⟩
    | none =>
      have Hx := hid hx
      cases hy : checkF ⟨y1, y2⟩ with
      | some e =>
        have HT := hid (show tn = true by rcases HTN.out with ⟨_, h⟩ | ⟨h, _⟩; exact absurd h.2.1 (by rw [hy]; simp); exact h)
        have Hy := hid hy
        clear hx hy
        go_wp2_with (first
                        | (go_at_call 16; (with_reducible refine (check_any x1 x2 _).mono ?_); rintro e w2 ⟨t2, ht2, rfl, hb2⟩; rw [Hx.out] at ht2; subst ht2; have HN2 := HN.up hb2; clear hU c0 c1 c2 c3 c4 c5 d0 d1 d2 d3 d4 d5; have hh := HN2; have hU := hh.1.1; have c0 := hh.1.2.1.1.1; have c1 := hh.1.2.1.2.1; have c2 := hh.1.2.2.1.1.1; have c3 := hh.1.2.2.1.2.1; have c4 := hh.1.2.2.2.1.1; have c5 := hh.1.2.2.2.2.1; have d0 := hh.2.1.1.1; have d1 := hh.2.1.2.1; have d2 := hh.2.2.1.1.1; have d3 := hh.2.2.1.2.1; have d4 := hh.2.2.2.1.1; have d5 := hh.2.2.2.2.1; (try dsimp only at c0 c1 c2 c3 c4 c5 d0 d1 d2 d3 d4 d5); clear hh)
                        | (go_at_call 16; (with_reducible refine (check_any y1 y2 _).mono ?_); rintro e w3 ⟨t3, ht3, rfl, hb3⟩; rw [Hy.out] at ht3; subst ht3; have HN3 := HN2.up hb3; clear hU c0 c1 c2 c3 c4 c5 d0 d1 d2 d3 d4 d5; have hh := HN3; have hU := hh.1.1; have c0 := hh.1.2.1.1.1; have c1 := hh.1.2.1.2.1; have c2 := hh.1.2.2.1.1.1; have c3 := hh.1.2.2.1.2.1; have c4 := hh.1.2.2.2.1.1; have c5 := hh.1.2.2.2.2.1; have d0 := hh.2.1.1.1; have d1 := hh.2.1.2.1; have d2 := hh.2.2.1.1.1; have d3 := hh.2.2.1.2.1; have d4 := hh.2.2.2.1.1; have d5 := hh.2.2.2.2.1; (try dsimp only at c0 c1 c2 c3 c4 c5 d0 d1 d2 d3 d4 d5); clear hh))
        go_meet
        exact ⟨by rw [HT.out], HN3⟩
      | none =>
        have Hy := hid hy
        cases hz : checkF ⟨z1, z2⟩ with
        | some e =>
          have HT := hid (show tn = true by rcases HTN.out with ⟨_, h⟩ | ⟨h, _⟩; exact absurd h.2.2.1 (by rw [hz]; simp); exact h)
          have Hz := hid hz
          clear hx hy hz
          go_wp2_with (first
                        | (go_at_call 16; (with_reducible refine (check_any x1 x2 _).mono ?_); rintro e w2 ⟨t2, ht2, rfl, hb2⟩; rw [Hx.out] at ht2; subst ht2; have HN2 := HN.up hb2; clear hU c0 c1 c2 c3 c4 c5 d0 d1 d2 d3 d4 d5; have hh := HN2; have hU := hh.1.1; have c0 := hh.1.2.1.1.1; have c1 := hh.1.2.1.2.1; have c2 := hh.1.2.2.1.1.1; have c3 := hh.1.2.2.1.2.1; have c4 := hh.1.2.2.2.1.1; have c5 := hh.1.2.2.2.2.1; have d0 := hh.2.1.1.1; have d1 := hh.2.1.2.1; have d2 := hh.2.2.1.1.1; have d3 := hh.2.2.1.2.1; have d4 := hh.2.2.2.1.1; have d5 := hh.2.2.2.2.1; (try dsimp only at c0 c1 c2 c3 c4 c5 d0 d1 d2 d3 d4 d5); clear hh)
                        | (go_at_call 16; (with_reducible refine (check_any y1 y2 _).mono ?_); rintro e w3 ⟨t3, ht3, rfl, hb3⟩; rw [Hy.out] at ht3; subst ht3; have HN3 := HN2.up hb3; clear hU c0 c1 c2 c3 c4 c5 d0 d1 d2 d3 d4 d5; have hh := HN3; have hU := hh.1.1; have c0 := hh.1.2.1.1.1; have c1 := hh.1.2.1.2.1; have c2 := hh.1.2.2.1.1.1; have c3 := hh.1.2.2.1.2.1; have c4 := hh.1.2.2.2.1.1; have c5 := hh.1.2.2.2.2.1; have d0 := hh.2.1.1.1; have d1 := hh.2.1.2.1; have d2 := hh.2.2.1.1.1; have d3 := hh.2.2.1.2.1; have d4 := hh.2.2.2.1.1; have d5 := hh.2.2.2.2.1; (try dsimp only at c0 c1 c2 c3 c4 c5 d0 d1 d2 d3 d4 d5); clear hh)
                        | (go_at_call 16; (with_reducible refine (check_any z1 z2 _).mono ?_); rintro e w4 ⟨t4, ht4, rfl, hb4⟩; rw [Hz.out] at ht4; subst ht4; have HN4 := HN3.up hb4; clear hU c0 c1 c2 c3 c4 c5 d0 d1 d2 d3 d4 d5; have hh := HN4; have hU := hh.1.1; have c0 := hh.1.2.1.1.1; have c1 := hh.1.2.1.2.1; have c2 := hh.1.2.2.1.1.1; have c3 := hh.1.2.2.1.2.1; have c4 := hh.1.2.2.2.1.1; have c5 := hh.1.2.2.2.2.1; have d0 := hh.2.1.1.1; have d1 := hh.2.1.2.1; have d2 := hh.2.2.1.1.1; have d3 := hh.2.2.1.2.1; have d4 := hh.2.2.2.1.1; have d5 := hh.2.2.2.2.1; (try dsimp only at c0 c1 c2 c3 c4 c5 d0 d1 d2 d3 d4 d5); clear hh))
          go_meet
          exact ⟨by rw [HT.out], HN4⟩
        | none =>
          have Hz := hid hz
          have hw : (decide (a < x1) = true ∧ tn = true) ∨ (decide (a < x1) = false ∧ decide (x2 < a) = true ∧ tn = true) ∨ (decide (a < x1) = false ∧ decide (x2 < a) = false ∧ decide (b < y1) = true ∧ tn = true) ∨ (decide (a < x1) = false ∧ decide (x2 < a) = false ∧ decide (b < y1) = false ∧ decide (y2 < b) = true ∧ tn = true) ∨ (decide (a < x1) = false ∧ decide (x2 < a) = false ∧ decide (b < y1) = false ∧ decide (y2 < b) = false ∧ tn = false) := by
            rcases HTN.out with ⟨h, k1, k2, k3, k4, k5, k6, k7⟩ | ⟨h, k⟩
            · exact .inr (.inr (.inr (.inr ⟨decide_eq_false (by omega), decide_eq_false (by omega), decide_eq_false (by omega), decide_eq_false (by omega), h⟩)))
            · by_cases k1 : a < x1
              · exact .inl ⟨decide_eq_true k1, h⟩
              · by_cases k2 : x2 < a
                · exact .inr (.inl ⟨decide_eq_false k1, decide_eq_true k2, h⟩)
                · by_cases k3 : b < y1
                  · exact .inr (.inr (.inl ⟨decide_eq_false k1, decide_eq_false k2, decide_eq_true k3, h⟩))
                  · by_cases k4 : y2 < b
                    · exact .inr (.inr (.inr (.inl ⟨decide_eq_false k1, decide_eq_false k2, decide_eq_false k3, decide_eq_true k4, h⟩)))
                    · exact absurd ⟨hx, hy, hz, by omega, by omega, by omega, by omega⟩ k
          clear hx hy hz
          rcases hw with ⟨f1, hT⟩ | ⟨f1, f2, hT⟩ | ⟨f1, f2, f3, hT⟩ | ⟨f1, f2, f3, f4, hT⟩ | ⟨f1, f2, f3, f4, hT⟩
          all_goals
            have HT := hid hT
            clear hT
            go_wp2_with (first
                        | (go_at_call 16; (with_reducible refine (check_any x1 x2 _).mono ?_); rintro e w2 ⟨t2, ht2, rfl, hb2⟩; rw [Hx.out] at ht2; subst ht2; have HN2 := HN.up hb2; clear hU c0 c1 c2 c3 c4 c5 d0 d1 d2 d3 d4 d5; have hh := HN2; have hU := hh.1.1; have c0 := hh.1.2.1.1.1; have c1 := hh.1.2.1.2.1; have c2 := hh.1.2.2.1.1.1; have c3 := hh.1.2.2.1.2.1; have c4 := hh.1.2.2.2.1.1; have c5 := hh.1.2.2.2.2.1; have d0 := hh.2.1.1.1; have d1 := hh.2.1.2.1; have d2 := hh.2.2.1.1.1; have d3 := hh.2.2.1.2.1; have d4 := hh.2.2.2.1.1; have d5 := hh.2.2.2.2.1; (try dsimp only at c0 c1 c2 c3 c4 c5 d0 d1 d2 d3 d4 d5); clear hh)
                        | (go_at_call 16; (with_reducible refine (check_any y1 y2 _).mono ?_); rintro e w3 ⟨t3, ht3, rfl, hb3⟩; rw [Hy.out] at ht3; subst ht3; have HN3 := HN2.up hb3; clear hU c0 c1 c2 c3 c4 c5 d0 d1 d2 d3 d4 d5; have hh := HN3; have hU := hh.1.1; have c0 := hh.1.2.1.1.1; have c1 := hh.1.2.1.2.1; have c2 := hh.1.2.2.1.1.1; have c3 := hh.1.2.2.1.2.1; have c4 := hh.1.2.2.2.1.1; have c5 := hh.1.2.2.2.2.1; have d0 := hh.2.1.1.1; have d1 := hh.2.1.2.1; have d2 := hh.2.2.1.1.1; have d3 := hh.2.2.1.2.1; have d4 := hh.2.2.2.1.1; have d5 := hh.2.2.2.2.1; (try dsimp only at c0 c1 c2 c3 c4 c5 d0 d1 d2 d3 d4 d5); clear hh)
                        | (go_at_call 16; (with_reducible refine (check_any z1 z2 _).mono ?_); rintro e w4 ⟨t4, ht4, rfl, hb4⟩; rw [Hz.out] at ht4; subst ht4; have HN4 := HN3.up hb4; clear hU c0 c1 c2 c3 c4 c5 d0 d1 d2 d3 d4 d5; have hh := HN4; have hU := hh.1.1; have c0 := hh.1.2.1.1.1; have c1 := hh.1.2.1.2.1; have c2 := hh.1.2.2.1.1.1; have c3 := hh.1.2.2.1.2.1; have c4 := hh.1.2.2.2.1.1; have c5 := hh.1.2.2.2.2.1; have d0 := hh.2.1.1.1; have d1 := hh.2.1.2.1; have d2 := hh.2.2.1.1.1; have d3 := hh.2.2.1.2.1; have d4 := hh.2.2.2.1.1; have d5 := hh.2.2.2.2.1; (try dsimp only at c0 c1 c2 c3 c4 c5 d0 d1 d2 d3 d4 d5); clear hh))
            go_meet
            exact ⟨by rw [HT.out], HN4⟩
  case rest =>
  clear HN
  obtain ⟨rfl, HN⟩ := hcut
  cases tn with
  | true =>
    have hh := HN; have hU := hh.1.1; have c0 := hh.1.2.1.1.1; have c1 := hh.1.2.1.2.1; have c2 := hh.1.2.2.1.1.1; have c3 := hh.1.2.2.1.2.1; have c4 := hh.1.2.2.2.1.1; have c5 := hh.1.2.2.2.2.1; have d0 := hh.2.1.1.1; have d1 := hh.2.1.2.1; have d2 := hh.2.2.1.1.1; have d3 := hh.2.2.1.2.1; have d4 := hh.2.2.2.1.1; have d5 := hh.2.2.2.2.1; (try dsimp only at c0 c1 c2 c3 c4 c5 d0 d1 d2 d3 d4 d5); clear hh
    go_wp2
    go_ret
    exact LawEnd.mk rfl hU
  | false =>
  have hask : Asks x1 x2 y1 y2 z1 z2 a b := by
    rcases HTN.out with ⟨_, h⟩ | ⟨h, _⟩
    · exact h
    · cases h
  obtain ⟨hx, hy, hz, ha1, ha2, hb1', hb2'⟩ := hask
  have rx := checkF_none.1 hx; have ry := checkF_none.1 hy
  have hc : check3F ⟨x1, x2⟩ ⟨y1, y2⟩ ⟨z1, z2⟩ = none := by
    unfold check3F
    rw [hx]
    dsimp only
    rw [hy]
    exact hz
  obtain ⟨bS, hS, iS⟩ := btwB z1 (a + b) z2
  obtain ⟨bT, hT, iT⟩ := btwT z1 z2 a b
  have hst := sum_told (a := a) (b := b) (bS := bS) HS.out hc ⟨ha1, ha2⟩ ⟨hb1', hb2'⟩ (fun h => iS.1 h)
  have htt := times_told (a := a) (b := b) (bT := bT) HS2.out hc ⟨ha1, ha2⟩ ⟨hb1', hb2'⟩ iT
  have hMa : M a := by obtain ⟨⟨_, _⟩, ⟨_, _⟩, _⟩ := rx; constructor <;> (dsimp only at *; omega)
  have hMb : M b := by obtain ⟨⟨_, _⟩, ⟨_, _⟩, _⟩ := ry; constructor <;> (dsimp only at *; omega)
  obtain ⟨ab1, ab2⟩ := mulL_bd hMa hMb
  obtain ⟨ab3, ab4⟩ := tdivn_bd ab1 ab2
  obtain ⟨ma1, ma2⟩ := hMa
  obtain ⟨mb1, mb2⟩ := hMb
  have HB := hid hS; have HT := hid hT; have HST := hid hst; have HTT := hid htt
  clear HTN hx hy hz ha1 ha2 hb1' hb2' rx ry hc hS iS hT iT hst htt HS HS2
  go_upto_region 6 with fail
  go_cut [15] from 82 to 95 (fun s wx => s = .bool bS ∧ N3 w w1 ⟨x1, x2⟩ ⟨y1, y2⟩ ⟨z1, z2⟩ ⟨3, 5⟩ ⟨3, 5⟩ ⟨8, 10⟩ wx)
  case first =>
    as_aux_lemma =>
    have hh := HN; have hU := hh.1.1; have c0 := hh.1.2.1.1.1; have c1 := hh.1.2.1.2.1; have c2 := hh.1.2.2.1.1.1; have c3 := hh.1.2.2.1.2.1; have c4 := hh.1.2.2.2.1.1; have c5 := hh.1.2.2.2.2.1; have d0 := hh.2.1.1.1; have d1 := hh.2.1.2.1; have d2 := hh.2.2.1.1.1; have d3 := hh.2.2.1.2.1; have d4 := hh.2.2.2.1.1; have d5 := hh.2.2.2.2.1; (try dsimp only at c0 c1 c2 c3 c4 c5 d0 d1 d2 d3 d4 d5); clear hh
    rcases HB.out with ⟨d1', e⟩ | ⟨d1', d2', e⟩ | ⟨d1', d2', e⟩
    all_goals
      have He := hid e
      clear e
      go_wp2
      go_meet
      exact ⟨by rw [He.out], HN⟩
  case rest =>
  clear HN HB
  obtain ⟨rfl, HN⟩ := hcut
  go_upto_region 7 with fail
  go_cut [16] from 96 to 104 (fun e wx => e = errV E ∧ N3 w w1 ⟨x1, x2⟩ ⟨y1, y2⟩ ⟨z1, z2⟩ A B C wx)
  case first =>
    as_aux_lemma =>
    have hh := HN; have hh := hid hh; have k0 := hh.out.2.1.1.2; have k1 := hh.out.2.1.2.2; have k2 := hh.out.2.2.1.1.2; have k3 := hh.out.2.2.1.2.2; have k4 := hh.out.2.2.2.1.2; have k5 := hh.out.2.2.2.2.2; have hh := hh.out; have hU := hh.1.1; have c0 := hh.1.2.1.1.1; have c1 := hh.1.2.1.2.1; have c2 := hh.1.2.2.1.1.1; have c3 := hh.1.2.2.1.2.1; have c4 := hh.1.2.2.2.1.1; have c5 := hh.1.2.2.2.2.1; have d0 := hh.2.1.1.1; have d1 := hh.2.1.2.1; have d2 := hh.2.2.1.1.1; have d3 := hh.2.2.1.2.1; have d4 := hh.2.2.2.1.1; have d5 := hh.2.2.2.2.1; (try dsimp only at c0 c1 c2 c3 c4 c5 d0 d1 d2 d3 d4 d5); clear hh
    go_wp2_with (first
                        | (go_at_call 10; (with_reducible refine (HC.out _).mono ?_); rintro e w5 ⟨rfl, hb5⟩; have HN5 := HN.up hb5; clear k0 k1 k2 k3 k4 k5; clear hU c0 c1 c2 c3 c4 c5 d0 d1 d2 d3 d4 d5; have hh := HN5; have hh := hid hh; have k0 := hh.out.2.1.1.2; have k1 := hh.out.2.1.2.2; have k2 := hh.out.2.2.1.1.2; have k3 := hh.out.2.2.1.2.2; have k4 := hh.out.2.2.2.1.2; have k5 := hh.out.2.2.2.2.2; have hh := hh.out; have hU := hh.1.1; have c0 := hh.1.2.1.1.1; have c1 := hh.1.2.1.2.1; have c2 := hh.1.2.2.1.1.1; have c3 := hh.1.2.2.1.2.1; have c4 := hh.1.2.2.2.1.1; have c5 := hh.1.2.2.2.2.1; have d0 := hh.2.1.1.1; have d1 := hh.2.1.2.1; have d2 := hh.2.2.1.1.1; have d3 := hh.2.2.1.2.1; have d4 := hh.2.2.2.1.1; have d5 := hh.2.2.2.2.1; (try dsimp only at c0 c1 c2 c3 c4 c5 d0 d1 d2 d3 d4 d5); clear hh))
    go_meet
    exact ⟨rfl, HN5.put3 hA.out _ _ _ _ _ _⟩
  case rest =>
  clear HN HC
  obtain ⟨rfl, HN⟩ := hcut
  go_upto_region 8 with fail
  go_cut [109] from 105 to 109 (fun t wx => t = .bool false ∧ N3 w w1 ⟨x1, x2⟩ ⟨y1, y2⟩ ⟨z1, z2⟩ A B C wx)
  case first =>
    as_aux_lemma =>
    have f0 := HST.out.1
    cases bS
    · clear f0
      go_wp2
      go_meet
      exact ⟨rfl, HN⟩
    · have f5 := f0 rfl
      clear f0
      have HDc := hid (Hd.out.up HN.1.1)
      go_wp2_with (first
                        | (go_at_call 11; (with_reducible refine (serr_any E 5 _ HDc.out).mono ?_); rintro e w6 ⟨rfl, hb6⟩; have HN6 := HN.up hb6))
      go_meet
      exact ⟨by first | rfl | (simp; done), HN6⟩
  case rest =>
  clear HN
  obtain ⟨rfl, HN⟩ := hcut
  go_upto_region 10 with fail
  go_cut [111] from 110 to 111 (fun t wx => t = .bool E.isNone ∧ N3 w w1 ⟨x1, x2⟩ ⟨y1, y2⟩ ⟨z1, z2⟩ A B C wx)
  case first =>
    as_aux_lemma =>
    cases E
    all_goals
      go_wp2
      go_meet
      exact ⟨rfl, HN⟩
  case rest =>
  clear HN
  obtain ⟨rfl, HN⟩ := hcut
  go_upto_if 111 with fail
  go_cut [] from 111 to 194 (fun wx => N3 w w1 ⟨x1, x2⟩ ⟨y1, y2⟩ ⟨z1, z2⟩ A B C wx)
  case first =>
    as_aux_lemma =>
    rcases HST.out.2 with ⟨n, hE⟩ | ⟨hE, ⟨f1, f2, f3, f4, f5, f6⟩, f0⟩
    · subst hE
      go_wp2
      all_goals go_meet
      all_goals exact HN
    · subst hE
      have hh := HN; have hU := hh.1.1; have c0 := hh.1.2.1.1.1; have c1 := hh.1.2.1.2.1; have c2 := hh.1.2.2.1.1.1; have c3 := hh.1.2.2.1.2.1; have c4 := hh.1.2.2.2.1.1; have c5 := hh.1.2.2.2.2.1; have d0 := hh.2.1.1.1; have d1 := hh.2.1.2.1; have d2 := hh.2.2.1.1.1; have d3 := hh.2.2.1.2.1; have d4 := hh.2.2.2.1.1; have d5 := hh.2.2.2.2.1; (try dsimp only at c0 c1 c2 c3 c4 c5 d0 d1 d2 d3 d4 d5); clear hh
      (try dsimp only at f1 f2 f3 f4 f5 f6)
      cases bS
      · clear f0
        go_wp2
        all_goals go_meet
        all_goals exact HN
      · obtain ⟨f7, f8, f9, f10, f11, f12⟩ := f0 rfl
        clear f0
        go_wp2
        all_goals go_meet
        all_goals exact HN
  case rest =>
  clear HN HST
  have HN := hcut
  go_upto_region 13 with fail
  go_cut [17] from 195 to 198 (fun s wx => s = .int .i64 ((a * b).tdiv 1000) ∧ N3 w w1 ⟨x1, x2⟩ ⟨y1, y2⟩ ⟨z1, z2⟩ A B C wx)
  case first =>
    as_aux_lemma =>
    go_wp2
    go_meet
    exact ⟨rfl, HN⟩
  case rest =>
  clear HN
  obtain ⟨rfl, HN⟩ := hcut
  go_upto_region 14 with fail
  go_cut [18] from 199 to 215 (fun s wx => s = .bool bT ∧ N3 w w1 ⟨x1, x2⟩ ⟨y1, y2⟩ ⟨z1, z2⟩ A B C wx)
  case first =>
    as_aux_lemma =>
    have hh := HN; have hU := hh.1.1; have c0 := hh.1.2.1.1.1; have c1 := hh.1.2.1.2.1; have c2 := hh.1.2.2.1.1.1; have c3 := hh.1.2.2.1.2.1; have c4 := hh.1.2.2.2.1.1; have c5 := hh.1.2.2.2.2.1; have d0 := hh.2.1.1.1; have d1 := hh.2.1.2.1; have d2 := hh.2.2.1.1.1; have d3 := hh.2.2.1.2.1; have d4 := hh.2.2.2.1.1; have d5 := hh.2.2.2.2.1; (try dsimp only at c0 c1 c2 c3 c4 c5 d0 d1 d2 d3 d4 d5); clear hh
    rcases HT.out with ⟨d1', e⟩ | ⟨d1', d2', e⟩ | ⟨d1', d2', d3', e⟩ | ⟨d1', d2', d3', e⟩
    all_goals
      have He := hid e
      clear e
      go_wp2
      go_meet
      exact ⟨by rw [He.out], HN⟩
  case rest =>
  clear HN HT
  obtain ⟨rfl, HN⟩ := hcut
  go_upto_region 15 with fail
  go_cut [16] from 216 to 224 (fun e wx => e = errV E2 ∧ N3 w w1 ⟨x1, x2⟩ ⟨y1, y2⟩ ⟨z1, z2⟩ A2 B2 C2' wx)
  case first =>
    as_aux_lemma =>
    have hh := HN; have hh := hid hh; have k0 := hh.out.2.1.1.2; have k1 := hh.out.2.1.2.2; have k2 := hh.out.2.2.1.1.2; have k3 := hh.out.2.2.1.2.2; have k4 := hh.out.2.2.2.1.2; have k5 := hh.out.2.2.2.2.2; have hh := hh.out; have hU := hh.1.1; have c0 := hh.1.2.1.1.1; have c1 := hh.1.2.1.2.1; have c2 := hh.1.2.2.1.1.1; have c3 := hh.1.2.2.1.2.1; have c4 := hh.1.2.2.2.1.1; have c5 := hh.1.2.2.2.2.1; have d0 := hh.2.1.1.1; have d1 := hh.2.1.2.1; have d2 := hh.2.2.1.1.1; have d3 := hh.2.2.1.2.1; have d4 := hh.2.2.2.1.1; have d5 := hh.2.2.2.2.1; (try dsimp only at c0 c1 c2 c3 c4 c5 d0 d1 d2 d3 d4 d5); clear hh
    go_wp2_with (first
                        | (go_at_call 15; (with_reducible refine (HC2.out _).mono ?_); rintro e w5 ⟨rfl, hb5⟩; have HN5 := HN.up hb5; clear k0 k1 k2 k3 k4 k5; clear hU c0 c1 c2 c3 c4 c5 d0 d1 d2 d3 d4 d5; have hh := HN5; have hh := hid hh; have k0 := hh.out.2.1.1.2; have k1 := hh.out.2.1.2.2; have k2 := hh.out.2.2.1.1.2; have k3 := hh.out.2.2.1.2.2; have k4 := hh.out.2.2.2.1.2; have k5 := hh.out.2.2.2.2.2; have hh := hh.out; have hU := hh.1.1; have c0 := hh.1.2.1.1.1; have c1 := hh.1.2.1.2.1; have c2 := hh.1.2.2.1.1.1; have c3 := hh.1.2.2.1.2.1; have c4 := hh.1.2.2.2.1.1; have c5 := hh.1.2.2.2.2.1; have d0 := hh.2.1.1.1; have d1 := hh.2.1.2.1; have d2 := hh.2.2.1.1.1; have d3 := hh.2.2.1.2.1; have d4 := hh.2.2.2.1.1; have d5 := hh.2.2.2.2.1; (try dsimp only at c0 c1 c2 c3 c4 c5 d0 d1 d2 d3 d4 d5); clear hh))
    go_meet
    exact ⟨rfl, HN5.put3 hA.out _ _ _ _ _ _⟩
  case rest =>
  clear HN HC2
  obtain ⟨rfl, HN⟩ := hcut
  go_upto_region 16 with fail
  go_cut [229] from 225 to 229 (fun t wx => t = .bool false ∧ N3 w w1 ⟨x1, x2⟩ ⟨y1, y2⟩ ⟨z1, z2⟩ A2 B2 C2' wx)
  case first =>
    as_aux_lemma =>
    have f0 := HTT.out.1
    cases bT
    · clear f0
      go_wp2
      go_meet
      exact ⟨rfl, HN⟩
    · have f5 := f0 rfl
      clear f0
      have HDc := hid (Hd.out.up HN.1.1)
      go_wp2_with (first
                        | (go_at_call 11; (with_reducible refine (serr_any E2 5 _ HDc.out).mono ?_); rintro e w6 ⟨rfl, hb6⟩; have HN6 := HN.up hb6))
      go_meet
      exact ⟨by first | rfl | (simp; done), HN6⟩
  case rest =>
  clear HN
  obtain ⟨rfl, HN⟩ := hcut
  rcases HTT.out.2 with ⟨n, hE⟩ | ⟨hE, ⟨f1, f2, f3, f4, f5, f6⟩, f0⟩
  · subst hE
    have hU := HN.1.1
    dsimp only [errV]
    go_wp2
    all_goals first | (go_ret; exact LawEnd.mk (by first | rfl | (simp; done)) hU) | (exfalso; simp_all [undef]; done)
  · subst hE
    dsimp only [errV]
    have hh := HN; have hU := hh.1.1; have c0 := hh.1.2.1.1.1; have c1 := hh.1.2.1.2.1; have c2 := hh.1.2.2.1.1.1; have c3 := hh.1.2.2.1.2.1; have c4 := hh.1.2.2.2.1.1; have c5 := hh.1.2.2.2.2.1; have d0 := hh.2.1.1.1; have d1 := hh.2.1.2.1; have d2 := hh.2.2.1.1.1; have d3 := hh.2.2.1.2.1; have d4 := hh.2.2.2.1.1; have d5 := hh.2.2.2.2.1; (try dsimp only at c0 c1 c2 c3 c4 c5 d0 d1 d2 d3 d4 d5); clear hh
    (try dsimp only at f1 f2 f3 f4 f5 f6)
    cases bT
    · clear f0
      go_wp2
      all_goals first | (go_ret; exact LawEnd.mk (by first | rfl | (simp; done)) hU) | (exfalso; simp_all [undef]; done)
    · obtain ⟨f7, f8, f9, f10, f11, f12⟩ := f0 rfl
      clear f0
      go_wp2
      all_goals first | (go_ret; exact LawEnd.mk (by first | rfl | (simp; done)) hU) | (exfalso; simp_all [undef]; done)
set_option maxRecDepth 100000 in
theorem narrowKeeps_lifted (os : Os) (started : os.Started) (H : Type) (enc : TypeId × Value → H) :
    ReturnsInHanded {} Tryd.checked os 4 .any (fun w args => (Rows.narrowKeepsSpec.pre enc Tryd.prog Tryd.f4 [] false w args ∧ laidMetH Tryd.prog laidL w) ∧ sizedMet enc Tryd.prog Tryd.f4 (OpenSpec.ofChange Rows.narrowKeepsSpec) false w args) (Rows.narrowKeepsSpec.post enc Tryd.prog Tryd.f4 false true false false) := by
  refine returnsInHanded_of_change_and (C := Tryd.checked) (X := fun w _ => laidMetH Tryd.prog laidL w) (fun _ _ _ hh h => h.of_heap hh) Tryd.own started (by kernel_rfl) Tryd.func4
    (ChangeSpec.witness_at (enc := enc) (C := Tryd.checked) (os := os) (X := fun w _ => laidMetH Tryd.prog laidL w) false (laidWorld os) #[.agg #[.int .i64 0, .int .i64 0], .agg #[.int .i64 0, .int .i64 0], .agg #[.int .i64 0, .int .i64 0], .int .i64 0, .int .i64 0] 8 rfl (by kernel_rfl) (by kernel_rfl) (by kernel_rfl) (by kernel_rfl) (by kernel_rfl) (laidWorld_met os _)) ?_
  intro W base args ds gs before hval0 hW _ _ hL _
  have hdoor := door_of_laid hL
  have hval : ∀ (j : Nat) t v, Tryd.f4.params[j]? = some t → args[j]? = some v → Value.okWide Tryd.prog W .any base t v := hval0
  have hW' := hW
  obtain ⟨p, q, hA0, hV, rfl, hfz, hnd⟩ := hW
  have hA : DataW.TrodAll enc Tryd.prog W 0 (fun _ => true) true Tryd.f4.params.toList args.toList ds p := hA0
  rw [Tryd.params4] at hA hval
  obtain ⟨v0, v1, v2, v3, v4, d0, d1, d2, d3, d4, p0, p1, p2, p3, p4, rfl, rfl, rfl, h0, h1, h2, h3, h4⟩ := trodAll_5 hA
  obtain ⟨rfl, rfl⟩ := trodVars_none hV
  obtain ⟨lo0, hi0, rfl, w0a, w0b⟩ := open_span (ti := 3) Tryd.underlying23 rfl rfl Tryd.underlying3 (by kernel_rfl) Tryd.cellsSpan (hval 0 23 _ rfl rfl) h0
  obtain ⟨lo1, hi1, rfl, w1a, w1b⟩ := open_span (ti := 3) Tryd.underlying23 rfl rfl Tryd.underlying3 (by kernel_rfl) Tryd.cellsSpan (hval 1 23 _ rfl rfl) h1
  obtain ⟨lo2, hi2, rfl, w2a, w2b⟩ := open_span (ti := 3) Tryd.underlying23 rfl rfl Tryd.underlying3 (by kernel_rfl) Tryd.cellsSpan (hval 2 23 _ rfl rfl) h2
  obtain ⟨n3, rfl, w3⟩ := open_i64 Tryd.underlying3 (hval 3 3 _ rfl rfl) h3
  obtain ⟨n4, rfl, w4⟩ := open_i64 Tryd.underlying3 (hval 4 3 _ rfl rfl) h4
  clear hA0 hval0
  refine (narrowKeeps_walk lo0 hi0 lo1 hi1 lo2 hi2 n3 n4 W ⟨wf_I64 w0a, wf_I64 w0b⟩ ⟨wf_I64 w1a, wf_I64 w1b⟩ ⟨wf_I64 w2a, wf_I64 w2b⟩ w3 w4 hdoor).mono fun e W' ⟨he, hu⟩ => ?_
  subst he
  exact ⟨_, rfl, law_post Tryd.laidOut rfl rfl Tryd.underlying4 (fun t ht => by simp [Tryd.params4] at ht; (try rcases ht with rfl | rfl); all_goals (first | (subst ht; exact ⟨by kernel_rfl, of_decide_eq_true (by kernel_rfl)⟩) | exact ⟨by kernel_rfl, of_decide_eq_true (by kernel_rfl)⟩)) hW' rfl rfl rfl hu⟩
theorem narrowKeeps_k1 : (Rows.narrowKeepsRow.inPlace == Tryd.pinned.checked.prog.inPlace 4) = true := by kernel_rfl
theorem narrowKeeps_k2 : (Rows.narrowKeepsRow.unfollowed == Tryd.pinned.checked.prog.unfollowed 4) = true := by kernel_rfl
theorem narrowKeeps_k3 : (Rows.narrowKeepsRow.recurses == Tryd.pinned.checked.prog.recurses 4) = true := by kernel_rfl
theorem narrowKeeps_k4 : (Rows.narrowKeepsRow.named == Tryd.pinned.checked.prog.varsNamed 4) = true := by kernel_rfl
theorem narrowKeeps_facts : joinedFacts Tryd.pinned.checked.prog 4 Tryd.f4 Rows.narrowKeepsSpec Rows.narrowKeepsRow = true :=
  joined_of _ _ _ _ _ Tryd.g1 Tryd.g2 Tryd.g3 Tryd.g4 Tryd.g5 Tryd.g6 Tryd.g7 Tryd.g8 Tryd.g9 narrowKeeps_k1 narrowKeeps_k2 narrowKeeps_k3 narrowKeeps_k4 (by kernel_rfl)
theorem narrowKeeps_bare : Rows.NarrowKeepsSaid :=
  OpenClaim.holds_of_wide 4 Tryd.f4 rfl rfl rfl rfl rfl rfl rfl ⟨rfl, rfl, rfl, rfl, rfl⟩ rfl rfl rfl rfl rfl (by kernel_rfl) Tryd.func4 narrowKeeps_facts
    (of_decide_eq_true (by kernel_rfl)) (by unfold Func.isWrapper; rw [if_neg (by decide +kernel)]; exact ⟨rfl, rfl⟩)
    (fun os started H enc _ => narrowKeeps_lifted os started H enc)
theorem narrowKeeps_holds : Rows.NarrowKeepsCardSaid :=
  Claim7.holds_tied_plain_at .later [] [.handle] true (true, "5ab8b7d782c9c3c1eaca6e7bcdacbde78234f7599c357d4e2dfcd916a275b667") true narrowKeeps_bare (fun _ h => by cases h) (by kernel_rfl) (fun _ h => by cases h) narrowKeeps_row_tie rfl ⟨rfl, rfl⟩ door_main rfl
    (fun f fn hf hfn => by
      obtain rfl : f = 4 := Option.some.inj ((show Tryd.prog.funcNamed "spanmeadow/spanlaw2.NarrowKeeps" = some 4 by kernel_rfl).symm.trans hf) |>.symm
      obtain rfl : fn = Tryd.f4 := (Option.some.inj (Tryd.func4.symm.trans hfn)).symm
      exact ⟨door_looks.symm, fun j t ht => by
        rw [Tryd.params4] at ht
        have hm : t ∈ [23, 3] := by
          have := Array.mem_of_getElem? ht
          simpa using this
        simp only [List.mem_cons, List.not_mem_nil, or_false] at hm
        rcases hm with rfl | rfl
        · exact (show Tryd.prog.wantsStandIn 23 = false by kernel_rfl)
        · exact (show Tryd.prog.wantsStandIn 3 = false by kernel_rfl)⟩)
    (by kernel_rfl)
#print axioms narrowKeeps_holds
end Go.Proofs.YtomfbhohaiffpaaDoor
