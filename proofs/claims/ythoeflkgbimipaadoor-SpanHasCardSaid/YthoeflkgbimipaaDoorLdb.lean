/- SpanHas: what two spans come to has what their numbers come to. -/
import Derived.Test.YthoeflkgbimipaaDoorKeeps
import Derived.Test.YthoeflkgbimipaaDoorSpane
import Derived.Test.YthoeflkgbimipaaDoorOwn
import Derived.Test.YthoeflkgbimipaaDoorNest
import Derived.Test.YthoeflkgbimipaaDoorTells
import Derived.Test.YthoeflkgbimipaaDoorDoor
import Derived.Deep.DeepCutAuto

set_option linter.unusedVariables false
set_option linter.unusedSimpArgs false
namespace Go.Proofs.YthoeflkgbimipaaDoor
open Go.ChangeShapes Go.WideShapes Go.ChangeAt Go.RowKit Go.Joins Go.Deep

theorem fact_stimes : twoF prodF ⟨-2000, 3000⟩ ⟨-1000, 4000⟩ = .ok ⟨-8000, 12000⟩ := by rfl
theorem two_in {f : Sp → Sp → Except Nat Sp} {a b : Sp} (ha : Rt a) (hb : Rt b) : twoF f a b = f a b := by
  unfold twoF
  rw [checkF_none.2 ha]
  dsimp only
  rw [checkF_none.2 hb]
theorem mulL_bd {x y : Int} (h1 : M x) (h2 : M y) : -1000000000000000000 ≤ x * y ∧ x * y ≤ 1000000000000000000 := mul_bd x y h1 h2
theorem in1000 {s : Sp} {n : Int} (h : In s n 1000) : s.lo * 1000 ≤ n ∧ n ≤ s.hi * 1000 := h
theorem quo_ends {a b s : Sp} {x y : Int} (h : quoF a b = .ok s) (ha : Has1 a x) (hb : Has1 b y) : (0 < y ∧ s.lo * y ≤ 1000 * x ∧ 1000 * x ≤ s.hi * y) ∨ (y < 0 ∧ 1000 * x ≤ s.lo * y ∧ s.hi * y ≤ 1000 * x) := by
  unfold quoF at h
  split at h
  · cases h
  · rename_i hz
    obtain ⟨rfl, -⟩ := fits_ok h
    obtain ⟨a1, a2⟩ := ha
    obtain ⟨b1, b2⟩ := hb
    have hz' : 0 < b.lo ∨ b.hi < 0 := by simp [zeroF] at hz; omega
    have m1 := min4_le (qdn a.lo b.lo) (qdn a.lo b.hi) (qdn a.hi b.lo) (qdn a.hi b.hi)
    have m2 := le_max4 (qup a.lo b.lo) (qup a.lo b.hi) (qup a.hi b.lo) (qup a.hi b.hi)
    generalize hL : min4 (qdn a.lo b.lo) (qdn a.lo b.hi) (qdn a.hi b.lo) (qdn a.hi b.hi) = L at *
    generalize hH : max4 (qup a.lo b.lo) (qup a.lo b.hi) (qup a.hi b.lo) (qup a.hi b.hi) = U at *
    dsimp only
    clear hL hH h hz
    rcases hz' with hp | hp
    · refine .inl ⟨by omega, ?_, ?_⟩
      · have q1 := (qdn_le (x := a.lo) (y := b.lo) (by omega)).1 hp
        have q2 := (qdn_le (x := a.lo) (y := b.hi) (by omega)).1 (by omega)
        have r1 : L * b.lo ≤ 1000 * a.lo := Int.le_trans (Int.mul_le_mul_of_nonneg_right m1.1 (by omega)) q1.1
        have r2 : L * b.hi ≤ 1000 * a.lo := Int.le_trans (Int.mul_le_mul_of_nonneg_right m1.2.1 (by omega)) q2.1
        rcases mul_btw L b1 b2 with k | k <;> omega
      · have q1 := (qdn_le (x := a.hi) (y := b.lo) (by omega)).1 hp
        have q2 := (qdn_le (x := a.hi) (y := b.hi) (by omega)).1 (by omega)
        have r1 : 1000 * a.hi ≤ U * b.lo := Int.le_trans q1.2 (Int.mul_le_mul_of_nonneg_right m2.2.2.1 (by omega))
        have r2 : 1000 * a.hi ≤ U * b.hi := Int.le_trans q2.2 (Int.mul_le_mul_of_nonneg_right m2.2.2.2 (by omega))
        rcases mul_btw U b1 b2 with k | k <;> omega
    · refine .inr ⟨by omega, ?_, ?_⟩
      · have q1 := (qdn_le (x := a.hi) (y := b.lo) (by omega)).2 (by omega)
        have q2 := (qdn_le (x := a.hi) (y := b.hi) (by omega)).2 hp
        have r1 : 1000 * a.hi ≤ L * b.lo := Int.le_trans q1.1 (Int.mul_le_mul_of_nonpos_right m1.2.2.1 (by omega))
        have r2 : 1000 * a.hi ≤ L * b.hi := Int.le_trans q2.1 (Int.mul_le_mul_of_nonpos_right m1.2.2.2 (by omega))
        rcases mul_btw L b1 b2 with k | k <;> omega
      · have q1 := (qdn_le (x := a.lo) (y := b.lo) (by omega)).2 (by omega)
        have q2 := (qdn_le (x := a.lo) (y := b.hi) (by omega)).2 hp
        have r1 : U * b.lo ≤ 1000 * a.lo := Int.le_trans (Int.mul_le_mul_of_nonpos_right m2.1 (by omega)) q1.2
        have r2 : U * b.hi ≤ 1000 * a.lo := Int.le_trans (Int.mul_le_mul_of_nonpos_right m2.2.1 (by omega)) q2.2
        rcases mul_btw U b1 b2 with k | k <;> omega
def okP (r : Except Nat Sp) (P : Sp → Prop) : Prop := match r with
  | .ok s => P s
  | .error _ => True
theorem okP_of {r : Except Nat Sp} {P : Sp → Prop} (h : ∀ s, r = .ok s → P s) : okP r P := by
  cases r with
  | error e => trivial
  | ok s => exact h s rfl
theorem btwB (lo x hi : Int) : ∃ b : Bool, ((decide (lo ≤ x) = false ∧ b = false) ∨ (decide (lo ≤ x) = true ∧ decide (x ≤ hi) = false ∧ b = false) ∨ (decide (lo ≤ x) = true ∧ decide (x ≤ hi) = true ∧ b = true)) ∧ (b = true ↔ lo ≤ x ∧ x ≤ hi) := by
  by_cases h1 : lo ≤ x <;> by_cases h2 : x ≤ hi
  · exact ⟨true, .inr (.inr ⟨decide_eq_true h1, decide_eq_true h2, rfl⟩), by simp [h1, h2]⟩
  · exact ⟨false, .inr (.inl ⟨decide_eq_true h1, decide_eq_false h2, rfl⟩), by simp [h2]⟩
  · exact ⟨false, .inl ⟨decide_eq_false h1, rfl⟩, by simp [h1]⟩
  · exact ⟨false, .inl ⟨decide_eq_false h1, rfl⟩, by simp [h1]⟩
/-- Both arguments' own cells. -/
def SH (w : World) (lo hi lo' hi' : Int) (wx : World) : Prop :=
  Up w wx ∧ Cf wx w.heap.size 0 (.int .i64 lo) ∧ Cf wx w.heap.size 1 (.int .i64 hi) ∧ Cf wx (w.heap.size + 1) 0 (.int .i64 lo') ∧ Cf wx (w.heap.size + 1) 1 (.int .i64 hi')
theorem SH.up {w wx wy : World} {lo hi lo' hi' : Int} (h : SH w lo hi lo' hi' wx) (hu : Up wx wy) : SH w lo hi lo' hi' wy :=
  ⟨h.1.call hu, Cf.up h.2.1 hu, Cf.up h.2.2.1 hu, Cf.up h.2.2.2.1 hu, Cf.up h.2.2.2.2 hu⟩


set_option maxRecDepth 100000 in
set_option maxHeartbeats 8000000 in
theorem sh_main (lo hi lo' hi' x y : Int) (w : World) (hd : Door w) (ra : Rt ⟨lo, hi⟩) (rb : Rt ⟨lo', hi'⟩) (hx : I64 x) (hy : I64 y) {rm : Except Nat Sp} (hm : comF ⟨lo, hi⟩ ⟨lo', hi'⟩ = rm) (hok : (∃ m, rm = .ok m) ∨ rm = .error 5) :
    Calls Tryd.prog 6 #[.agg #[.int .i64 lo, .int .i64 hi], .agg #[.int .i64 lo', .int .i64 hi'], .int .i64 x, .int .i64 y] w (LawEnd w) := by
  obtain ⟨bA, hA, iA⟩ := btwB lo x hi
  obtain ⟨bB, hB, iB⟩ := btwB lo' y hi'
  obtain ⟨bX, hX, iX⟩ := btwB lo' x hi'
  have Hd := hid hd
  have HA := hid hA; have HB := hid hB; have HX := hid hX
  have HF := hid fact_stimes
  have Ha := hid (checkF_none.2 ra); have Hb := hid (checkF_none.2 rb)
  have HH := hid (show twoF (fun a b => .ok (bothF a b)) ⟨lo, hi⟩ ⟨lo', hi'⟩ = .ok ⟨min lo lo', max hi hi'⟩ by rw [two_in ra rb]; rfl)
  have HM := hid (show twoF comF ⟨lo, hi⟩ ⟨lo', hi'⟩ = rm by rw [two_in ra rb]; exact hm)
  have HMo := hid (fun W => spX (HM.out ▸ smeet_any lo hi lo' hi' W))
  clear HM
  have Hhull := hid (show (bA = false ∧ bX = false) ∨ (bA = false ∧ bX = true ∧ decide (x < min lo lo') = false ∧ decide (max hi hi' < x) = false) ∨ (bA = true ∧ decide (x < min lo lo') = false ∧ decide (max hi hi' < x) = false) by
    cases bA
    · cases bX
      · exact .inl ⟨rfl, rfl⟩
      · have := iX.1 rfl
        exact .inr (.inl ⟨rfl, rfl, decide_eq_false (by omega), decide_eq_false (by omega)⟩)
    · have := iA.1 rfl
      exact .inr (.inr ⟨rfl, decide_eq_false (by omega), decide_eq_false (by omega)⟩))
  have Hmeet := hid (show (∃ m, rm = .ok m ∧ decide (m.lo ≤ x) = false ∧ (bA && bX) = false) ∨ (∃ m, rm = .ok m ∧ decide (m.lo ≤ x) = true ∧ decide (x ≤ m.hi) = false ∧ (bA && bX) = false) ∨ (∃ m, rm = .ok m ∧ decide (m.lo ≤ x) = true ∧ decide (x ≤ m.hi) = true ∧ (bA && bX) = true) ∨ (rm = .error 5 ∧ (bA && bX) = false) by
    rcases hok with ⟨m, rfl⟩ | rfl
    · unfold comF at hm
      split at hm
      · cases hm
      · injection hm with hm
        subst hm
        dsimp only at *
        by_cases h1 : max lo lo' ≤ x
        · by_cases h2 : x ≤ min hi hi'
          · exact .inr (.inr (.inl ⟨_, rfl, decide_eq_true h1, decide_eq_true h2, by rw [iA.2 ⟨by omega, by omega⟩, iX.2 ⟨by omega, by omega⟩]; rfl⟩))
          · refine .inr (.inl ⟨_, rfl, decide_eq_true h1, decide_eq_false h2, ?_⟩)
            cases bA
            · rfl
            · cases bX
              · rfl
              · have := iA.1 rfl; have := iX.1 rfl; omega
        · refine .inl ⟨_, rfl, decide_eq_false h1, ?_⟩
          cases bA
          · rfl
          · cases bX
            · rfl
            · have := iA.1 rfl; have := iX.1 rfl; omega
    · refine .inr (.inr (.inr ⟨rfl, ?_⟩))
      unfold comF at hm
      split at hm
      · dsimp only at *
        cases bA
        · rfl
        · cases bX
          · rfl
          · have := iA.1 rfl; have := iX.1 rfl; omega
      · cases hm)
  have HAd := hid (fun (s : Sp) (h : twoF sumF ⟨lo, hi⟩ ⟨lo', hi'⟩ = .ok s) (k1 : bA = true) (k2 : bB = true) => (show decide (x + y < s.lo) = false ∧ decide (s.hi < x + y) = false from by
    rw [two_in ra rb] at h
    have := sum_has1 h (iA.1 k1) (iB.1 k2)
    unfold Has1 at this
    exact ⟨decide_eq_false (by omega), decide_eq_false (by omega)⟩))
  have HLe := hid (fun (s : Sp) (h : twoF restF ⟨lo, hi⟩ ⟨lo', hi'⟩ = .ok s) (k1 : bA = true) (k2 : bB = true) => (show decide (x - y < s.lo) = false ∧ decide (s.hi < x - y) = false from by
    rw [two_in ra rb] at h
    have := rest_has1 h (iA.1 k1) (iB.1 k2)
    unfold Has1 at this
    exact ⟨decide_eq_false (by omega), decide_eq_false (by omega)⟩))
  have HTi := hid (fun (s : Sp) (h : twoF prodF ⟨lo, hi⟩ ⟨lo', hi'⟩ = .ok s) (k1 : bA = true) (k2 : bB = true) => (show decide (x * y < s.lo * 1000) = false ∧ decide (s.hi * 1000 < x * y) = false ∧ -1000000000 ≤ s.lo ∧ s.lo ≤ 1000000000 ∧ -1000000000 ≤ s.hi ∧ s.hi ≤ 1000000000 from by
    rw [two_in ra rb] at h
    have := in1000 (prod_inD h (iA.1 k1) (iB.1 k2))
    obtain ⟨⟨m1, m2⟩, ⟨m3, m4⟩⟩ := prod_M h
    exact ⟨decide_eq_false (by omega), decide_eq_false (by omega), m1, m2, m3, m4⟩))
  have HBy := hid (fun (s : Sp) (h : twoF quoF ⟨lo, hi⟩ ⟨lo', hi'⟩ = .ok s) (k1 : bA = true) (k2 : bB = true) => (show (-1000000000000000000 ≤ s.lo * y ∧ s.lo * y ≤ 1000000000000000000 ∧ -1000000000000000000 ≤ s.hi * y ∧ s.hi * y ≤ 1000000000000000000) ∧
      ((decide (0 < y) = true ∧ decide (s.lo * y ≤ 1000 * x) = true ∧ decide (1000 * x ≤ s.hi * y) = true) ∨ (decide (0 < y) = false ∧ decide (y < 0) = true ∧ decide (1000 * x ≤ s.lo * y) = true ∧ decide (s.hi * y ≤ 1000 * x) = true)) from by
    rw [two_in ra rb] at h
    have hMy : M y := by
      have := iB.1 k2
      obtain ⟨⟨_, _⟩, ⟨_, _⟩, _⟩ := rb
      constructor <;> (dsimp only at *; omega)
    obtain ⟨m1, m2⟩ := quo_M h
    obtain ⟨b1, b2⟩ := mulL_bd m1 hMy
    obtain ⟨b3, b4⟩ := mulL_bd m2 hMy
    refine ⟨⟨b1, b2, b3, b4⟩, ?_⟩
    rcases quo_ends h (iA.1 k1) (iB.1 k2) with ⟨q1, q2, q3⟩ | ⟨q1, q2, q3⟩
    · exact .inl ⟨decide_eq_true q1, decide_eq_true q2, decide_eq_true q3⟩
    · exact .inr ⟨decide_eq_false (by omega), decide_eq_true q1, decide_eq_true q2, decide_eq_true q3⟩))
  have Hxy := hid (fun (k1 : bA = true) (k2 : bB = true) => (show (-1000000000 ≤ x ∧ x ≤ 1000000000) ∧ (-1000000000 ≤ y ∧ y ≤ 1000000000) ∧ (-1000000000000000000 ≤ x * y ∧ x * y ≤ 1000000000000000000) from by
    have q1 := iA.1 k1; have q2 := iB.1 k2
    obtain ⟨⟨_, _⟩, ⟨_, _⟩, _⟩ := ra
    obtain ⟨⟨_, _⟩, ⟨_, _⟩, _⟩ := rb
    dsimp only at *
    have hx' : M x := by constructor <;> omega
    have hy' : M y := by constructor <;> omega
    exact ⟨hx', hy', mulL_bd hx' hy'⟩))
  clear hd hA hB hX iA iB iX ra rb hm hok hx hy
  go_enter Tryd.func6, Tryd.ntmps6
  go_upto_region 6 with (first
    | ((go_at_call 33; (with_reducible refine (stimes_any _ _ _ _ _).mono ?_); rintro e w1 ⟨x1, hx1, rfl, hb1⟩ <;> (rw [HF.out] at hx1; subst hx1)) <;> (have hle := Up.le hb1; (try simp only [World.size_alloc, World.size_setCell, World.size_drew, World.heap_drewN] at hle); (try (have _ : w.heap.size < w1.heap.size := (by omega); (try (apply fk hb1 (w.heap.size); (focus (go_simp; rfl)); (focus (intro o; go_simp)); intro z; (try clear f_0); have f_0 := z; clear z)); (try (apply ck hb1 (w.heap.size) 0; (focus (go_simp; rfl)); intro z; (try clear c_0_0); have c_0_0 := z; clear z; (try (apply ck hb1 (w.heap.size) 1; (focus (go_simp; rfl)); intro z; (try clear c_0_1); have c_0_1 := z; clear z)))); (try (have _ : w.heap.size + 1 < w1.heap.size := (by omega); (try (apply fk hb1 (w.heap.size + 1); (focus (go_simp; rfl)); (focus (intro o; go_simp)); intro z; (try clear f_1); have f_1 := z; clear z)); (try (apply ck hb1 (w.heap.size + 1) 0; (focus (go_simp; rfl)); intro z; (try clear c_1_0); have c_1_0 := z; clear z; (try (apply ck hb1 (w.heap.size + 1) 1; (focus (go_simp; rfl)); intro z; (try clear c_1_1); have c_1_1 := z; clear z)))))))); clear hle; (try (apply old_keep (w0 := w) (w := w1); (focus ((repeat (first | (with_reducible exact Up.refl _) | (with_reducible assumption) | (with_reducible refine Up.alloc ?_ _) | (with_reducible refine Up.drew ?_) | ((with_reducible refine Up.set ?_ ?_ _); rotate_left; focus (first | omega | (simp; done) | (simp; omega))) | (with_reducible refine Up.drewN ?_ _) | (with_reducible refine Up.call ?_ (by with_reducible assumption)))))); intro y z; (try clear hUp); (try clear hOld); have hUp := y; have hOld := z; clear y z))))
    | ((go_at_call 23; (with_reducible refine (check_any lo hi _).mono ?_); rintro e w2 ⟨x2, hx2, rfl, hb2⟩ <;> (rw [Ha.out] at hx2; subst hx2)) <;> (have hle := Up.le hb2; (try simp only [World.size_alloc, World.size_setCell, World.size_drew, World.heap_drewN] at hle); (try (have _ : w.heap.size < w2.heap.size := (by omega); (try (apply fk hb2 (w.heap.size); (focus (go_simp; rfl)); (focus (intro o; go_simp)); intro z; (try clear f_0); have f_0 := z; clear z)); (try (apply ck hb2 (w.heap.size) 0; (focus (go_simp; rfl)); intro z; (try clear c_0_0); have c_0_0 := z; clear z; (try (apply ck hb2 (w.heap.size) 1; (focus (go_simp; rfl)); intro z; (try clear c_0_1); have c_0_1 := z; clear z)))); (try (have _ : w.heap.size + 1 < w2.heap.size := (by omega); (try (apply fk hb2 (w.heap.size + 1); (focus (go_simp; rfl)); (focus (intro o; go_simp)); intro z; (try clear f_1); have f_1 := z; clear z)); (try (apply ck hb2 (w.heap.size + 1) 0; (focus (go_simp; rfl)); intro z; (try clear c_1_0); have c_1_0 := z; clear z; (try (apply ck hb2 (w.heap.size + 1) 1; (focus (go_simp; rfl)); intro z; (try clear c_1_1); have c_1_1 := z; clear z)))))))); (try (have _ : w1.heap.size < w2.heap.size := (by omega); (try (apply fk hb2 (w1.heap.size); (focus (go_simp; rfl)); (focus (intro o; go_simp)); intro z; (try clear f1_0); have f1_0 := z; clear z)); (try (apply ck hb2 (w1.heap.size) 0; (focus (go_simp; rfl)); intro z; (try clear c1_0_0); have c1_0_0 := z; clear z; (try (apply ck hb2 (w1.heap.size) 1; (focus (go_simp; rfl)); intro z; (try clear c1_0_1); have c1_0_1 := z; clear z)))))); clear hle; (try (apply old_keep (w0 := w) (w := w2); (focus ((repeat (first | (with_reducible exact Up.refl _) | (with_reducible assumption) | (with_reducible refine Up.alloc ?_ _) | (with_reducible refine Up.drew ?_) | ((with_reducible refine Up.set ?_ ?_ _); rotate_left; focus (first | omega | (simp; done) | (simp; omega))) | (with_reducible refine Up.drewN ?_ _) | (with_reducible refine Up.call ?_ (by with_reducible assumption)))))); intro y z; (try clear hUp); (try clear hOld); have hUp := y; have hOld := z; clear y z))))
    | ((go_at_call 23; (with_reducible refine (check_any lo' hi' _).mono ?_); rintro e w3 ⟨x3, hx3, rfl, hb3⟩ <;> (rw [Hb.out] at hx3; subst hx3)) <;> (have hle := Up.le hb3; (try simp only [World.size_alloc, World.size_setCell, World.size_drew, World.heap_drewN] at hle); (try (have _ : w.heap.size < w3.heap.size := (by omega); (try (apply fk hb3 (w.heap.size); (focus (go_simp; rfl)); (focus (intro o; go_simp)); intro z; (try clear f_0); have f_0 := z; clear z)); (try (apply ck hb3 (w.heap.size) 0; (focus (go_simp; rfl)); intro z; (try clear c_0_0); have c_0_0 := z; clear z; (try (apply ck hb3 (w.heap.size) 1; (focus (go_simp; rfl)); intro z; (try clear c_0_1); have c_0_1 := z; clear z)))); (try (have _ : w.heap.size + 1 < w3.heap.size := (by omega); (try (apply fk hb3 (w.heap.size + 1); (focus (go_simp; rfl)); (focus (intro o; go_simp)); intro z; (try clear f_1); have f_1 := z; clear z)); (try (apply ck hb3 (w.heap.size + 1) 0; (focus (go_simp; rfl)); intro z; (try clear c_1_0); have c_1_0 := z; clear z; (try (apply ck hb3 (w.heap.size + 1) 1; (focus (go_simp; rfl)); intro z; (try clear c_1_1); have c_1_1 := z; clear z)))))))); (try (have _ : w1.heap.size < w3.heap.size := (by omega); (try (apply fk hb3 (w1.heap.size); (focus (go_simp; rfl)); (focus (intro o; go_simp)); intro z; (try clear f1_0); have f1_0 := z; clear z)); (try (apply ck hb3 (w1.heap.size) 0; (focus (go_simp; rfl)); intro z; (try clear c1_0_0); have c1_0_0 := z; clear z; (try (apply ck hb3 (w1.heap.size) 1; (focus (go_simp; rfl)); intro z; (try clear c1_0_1); have c1_0_1 := z; clear z)))))); (try (have _ : w2.heap.size < w3.heap.size := (by omega); (try (apply fk hb3 (w2.heap.size); (focus (go_simp; rfl)); (focus (intro o; go_simp)); intro z; (try clear f2_0); have f2_0 := z; clear z)); (try (apply ck hb3 (w2.heap.size) 0; (focus (go_simp; rfl)); intro z; (try clear c2_0_0); have c2_0_0 := z; clear z; (try (apply ck hb3 (w2.heap.size) 1; (focus (go_simp; rfl)); intro z; (try clear c2_0_1); have c2_0_1 := z; clear z)))))); clear hle; (try (apply old_keep (w0 := w) (w := w3); (focus ((repeat (first | (with_reducible exact Up.refl _) | (with_reducible assumption) | (with_reducible refine Up.alloc ?_ _) | (with_reducible refine Up.drew ?_) | ((with_reducible refine Up.set ?_ ?_ _); rotate_left; focus (first | omega | (simp; done) | (simp; omega))) | (with_reducible refine Up.drewN ?_ _) | (with_reducible refine Up.call ?_ (by with_reducible assumption)))))); intro y z; (try clear hUp); (try clear hOld); have hUp := y; have hOld := z; clear y z)))))
  have E0 : SH w lo hi lo' hi' w3 := ⟨by (repeat (first | (with_reducible exact Up.refl _) | (with_reducible assumption) | (with_reducible refine Up.alloc ?_ _) | (with_reducible refine Up.drew ?_) | ((with_reducible refine Up.set ?_ ?_ _); rotate_left; focus (first | omega | (simp; done) | (simp; omega))) | (with_reducible refine Up.drewN ?_ _) | (with_reducible refine Up.call ?_ (by with_reducible assumption)))), ⟨by go_simp, by go_simp⟩, ⟨by go_simp, by go_simp⟩, ⟨by go_simp, by go_simp⟩, ⟨by go_simp, by go_simp⟩⟩
  have HE := hid E0
  go_cut [11] (fun s11 wx => s11 = .bool bA ∧ SH w lo hi lo' hi' wx)
  case first =>
   as_aux_lemma =>
    clear HAd HLe HTi HBy Hxy Hmeet Hhull HMo HB HX
    rcases HA.out with ⟨d1, e⟩ | ⟨d1, d2, e⟩ | ⟨d1, d2, e⟩
    all_goals
      have He := hid e
      clear e
      go_wp2
      go_meet
      exact ⟨by rw [He.out], SH.up HE.out (by (repeat (first | (with_reducible exact Up.refl _) | (with_reducible assumption) | (with_reducible refine Up.alloc ?_ _) | (with_reducible refine Up.drew ?_) | ((with_reducible refine Up.set ?_ ?_ _); rotate_left; focus (first | omega | (simp; done) | (simp; omega))) | (with_reducible refine Up.drewN ?_ _) | (with_reducible refine Up.call ?_ (by with_reducible assumption)))))⟩
  case rest =>
    clear HE E0
    (obtain ⟨rfl, hS⟩ := hcut; have HS := hid hS; obtain ⟨hU, ⟨c0, g0⟩, ⟨c1, g1⟩, ⟨c2, g2⟩, ⟨c3, g3⟩⟩ := hS; have l0 := World.block_lt_of_cell? _ _ c0; have l1 := World.block_lt_of_cell? _ _ c2; dsimp only at l0 l1)
    go_upto_region 7 with fail
    go_cut [12] (fun s12 wx => s12 = .bool bB ∧ SH w lo hi lo' hi' wx)
    case first =>
     as_aux_lemma =>
      clear HAd HLe HTi HBy Hxy Hmeet Hhull HMo HA HX
      rcases HB.out with ⟨d1, e⟩ | ⟨d1, d2, e⟩ | ⟨d1, d2, e⟩
      all_goals
        have He := hid e
        clear e
        go_wp2
        go_meet
        exact ⟨by rw [He.out], SH.up HS.out (by (repeat (first | (with_reducible exact Up.refl _) | (with_reducible assumption) | (with_reducible refine Up.alloc ?_ _) | (with_reducible refine Up.drew ?_) | ((with_reducible refine Up.set ?_ ?_ _); rotate_left; focus (first | omega | (simp; done) | (simp; omega))) | (with_reducible refine Up.drewN ?_ _) | (with_reducible refine Up.call ?_ (by with_reducible assumption)))))⟩
    case rest =>
    clear HS hU c0 g0 c1 g1 c2 g2 c3 g3 l0 l1
    (obtain ⟨rfl, hS⟩ := hcut; have HS := hid hS; obtain ⟨hU, ⟨c0, g0⟩, ⟨c1, g1⟩, ⟨c2, g2⟩, ⟨c3, g3⟩⟩ := hS; have l0 := World.block_lt_of_cell? _ _ c0; have l1 := World.block_lt_of_cell? _ _ c2; dsimp only at l0 l1)
    go_upto_region 8 with fail
    go_cut [13] (fun s13 wx => s13 = .bool bX ∧ SH w lo hi lo' hi' wx)
    case first =>
     as_aux_lemma =>
      clear HAd HLe HTi HBy Hxy Hmeet Hhull HMo HA HB
      rcases HX.out with ⟨d1, e⟩ | ⟨d1, d2, e⟩ | ⟨d1, d2, e⟩
      all_goals
        have He := hid e
        clear e
        go_wp2
        go_meet
        exact ⟨by rw [He.out], SH.up HS.out (by (repeat (first | (with_reducible exact Up.refl _) | (with_reducible assumption) | (with_reducible refine Up.alloc ?_ _) | (with_reducible refine Up.drew ?_) | ((with_reducible refine Up.set ?_ ?_ _); rotate_left; focus (first | omega | (simp; done) | (simp; omega))) | (with_reducible refine Up.drewN ?_ _) | (with_reducible refine Up.call ?_ (by with_reducible assumption)))))⟩
    case rest =>
    clear HS hU c0 g0 c1 g1 c2 g2 c3 g3 l0 l1
    (obtain ⟨rfl, hS⟩ := hcut; have HS := hid hS; obtain ⟨hU, ⟨c0, g0⟩, ⟨c1, g1⟩, ⟨c2, g2⟩, ⟨c3, g3⟩⟩ := hS; have l0 := World.block_lt_of_cell? _ _ c0; have l1 := World.block_lt_of_cell? _ _ c2; dsimp only at l0 l1)
    go_upto_region 10 with (first
      | ((go_at_call 35; (with_reducible refine (shull_any _ _ _ _ _).mono ?_); rintro e w4 ⟨x4, hx4, rfl, hb4⟩ <;> (rw [HH.out] at hx4; subst hx4)) <;> (have hle := Up.le hb4; (try simp only [World.size_alloc, World.size_setCell, World.size_drew, World.heap_drewN] at hle); (try (have _ : w.heap.size < w4.heap.size := (by omega); (try (apply fk hb4 (w.heap.size); (focus (go_simp; rfl)); (focus (intro o; go_simp)); intro z; (try clear f_0); have f_0 := z; clear z)); (try (apply ck hb4 (w.heap.size) 0; (focus (go_simp; rfl)); intro z; (try clear c_0_0); have c_0_0 := z; clear z; (try (apply ck hb4 (w.heap.size) 1; (focus (go_simp; rfl)); intro z; (try clear c_0_1); have c_0_1 := z; clear z)))); (try (have _ : w.heap.size + 1 < w4.heap.size := (by omega); (try (apply fk hb4 (w.heap.size + 1); (focus (go_simp; rfl)); (focus (intro o; go_simp)); intro z; (try clear f_1); have f_1 := z; clear z)); (try (apply ck hb4 (w.heap.size + 1) 0; (focus (go_simp; rfl)); intro z; (try clear c_1_0); have c_1_0 := z; clear z; (try (apply ck hb4 (w.heap.size + 1) 1; (focus (go_simp; rfl)); intro z; (try clear c_1_1); have c_1_1 := z; clear z)))))))); (try (have _ : w1.heap.size < w4.heap.size := (by omega); (try (apply fk hb4 (w1.heap.size); (focus (go_simp; rfl)); (focus (intro o; go_simp)); intro z; (try clear f1_0); have f1_0 := z; clear z)); (try (apply ck hb4 (w1.heap.size) 0; (focus (go_simp; rfl)); intro z; (try clear c1_0_0); have c1_0_0 := z; clear z; (try (apply ck hb4 (w1.heap.size) 1; (focus (go_simp; rfl)); intro z; (try clear c1_0_1); have c1_0_1 := z; clear z)))))); (try (have _ : w2.heap.size < w4.heap.size := (by omega); (try (apply fk hb4 (w2.heap.size); (focus (go_simp; rfl)); (focus (intro o; go_simp)); intro z; (try clear f2_0); have f2_0 := z; clear z)); (try (apply ck hb4 (w2.heap.size) 0; (focus (go_simp; rfl)); intro z; (try clear c2_0_0); have c2_0_0 := z; clear z; (try (apply ck hb4 (w2.heap.size) 1; (focus (go_simp; rfl)); intro z; (try clear c2_0_1); have c2_0_1 := z; clear z)))))); (try (have _ : w3.heap.size < w4.heap.size := (by omega); (try (apply fk hb4 (w3.heap.size); (focus (go_simp; rfl)); (focus (intro o; go_simp)); intro z; (try clear f3_0); have f3_0 := z; clear z)); (try (apply ck hb4 (w3.heap.size) 0; (focus (go_simp; rfl)); intro z; (try clear c3_0_0); have c3_0_0 := z; clear z; (try (apply ck hb4 (w3.heap.size) 1; (focus (go_simp; rfl)); intro z; (try clear c3_0_1); have c3_0_1 := z; clear z)))))); clear hle; (try (apply old_keep (w0 := w) (w := w4); (focus ((repeat (first | (with_reducible exact Up.refl _) | (with_reducible assumption) | (with_reducible refine Up.alloc ?_ _) | (with_reducible refine Up.drew ?_) | ((with_reducible refine Up.set ?_ ?_ _); rotate_left; focus (first | omega | (simp; done) | (simp; omega))) | (with_reducible refine Up.drewN ?_ _) | (with_reducible refine Up.call ?_ (by with_reducible assumption)))))); intro y z; (try clear hUp); (try clear hOld); have hUp := y; have hOld := z; clear y z)))))
    have E4 := SH.up HS.out (show Up wc w4 by (repeat (first | (with_reducible exact Up.refl _) | (with_reducible assumption) | (with_reducible refine Up.alloc ?_ _) | (with_reducible refine Up.drew ?_) | ((with_reducible refine Up.set ?_ ?_ _); rotate_left; focus (first | omega | (simp; done) | (simp; omega))) | (with_reducible refine Up.drewN ?_ _) | (with_reducible refine Up.call ?_ (by with_reducible assumption)))))
    have HE := hid E4
    go_cut [101] (fun s wx => s = .bool false ∧ SH w lo hi lo' hi' wx)
    case first =>
     as_aux_lemma =>
      clear HAd HLe HTi HBy Hxy Hmeet HMo HA HB HX
      rcases Hhull.out with ⟨rfl, rfl⟩ | ⟨rfl, rfl, d1, d2⟩ | ⟨rfl, d1, d2⟩
      all_goals
        go_wp2
        go_meet
        exact ⟨rfl, SH.up HE.out (by (repeat (first | (with_reducible exact Up.refl _) | (with_reducible assumption) | (with_reducible refine Up.alloc ?_ _) | (with_reducible refine Up.drew ?_) | ((with_reducible refine Up.set ?_ ?_ _); rotate_left; focus (first | omega | (simp; done) | (simp; omega))) | (with_reducible refine Up.drewN ?_ _) | (with_reducible refine Up.call ?_ (by with_reducible assumption)))))⟩
    case rest =>
    clear E4 HE
    clear HS hU c0 g0 c1 g1 c2 g2 c3 g3 l0 l1
    (obtain ⟨rfl, hS⟩ := hcut; have HS := hid hS; obtain ⟨hU, ⟨c0, g0⟩, ⟨c1, g1⟩, ⟨c2, g2⟩, ⟨c3, g3⟩⟩ := hS; have l0 := World.block_lt_of_cell? _ _ c0; have l1 := World.block_lt_of_cell? _ _ c2; dsimp only at l0 l1)
    go_upto_region 13 with (first
      | ((go_at_call 36; (with_reducible refine (HMo.out _).mono ?_); rintro e w5 ⟨rfl, hb5⟩) <;> (have hle := Up.le hb5; (try simp only [World.size_alloc, World.size_setCell, World.size_drew, World.heap_drewN] at hle); (try (have _ : w.heap.size < w5.heap.size := (by omega); (try (apply fk hb5 (w.heap.size); (focus (go_simp; rfl)); (focus (intro o; go_simp)); intro z; (try clear f_0); have f_0 := z; clear z)); (try (apply ck hb5 (w.heap.size) 0; (focus (go_simp; rfl)); intro z; (try clear c_0_0); have c_0_0 := z; clear z; (try (apply ck hb5 (w.heap.size) 1; (focus (go_simp; rfl)); intro z; (try clear c_0_1); have c_0_1 := z; clear z)))); (try (have _ : w.heap.size + 1 < w5.heap.size := (by omega); (try (apply fk hb5 (w.heap.size + 1); (focus (go_simp; rfl)); (focus (intro o; go_simp)); intro z; (try clear f_1); have f_1 := z; clear z)); (try (apply ck hb5 (w.heap.size + 1) 0; (focus (go_simp; rfl)); intro z; (try clear c_1_0); have c_1_0 := z; clear z; (try (apply ck hb5 (w.heap.size + 1) 1; (focus (go_simp; rfl)); intro z; (try clear c_1_1); have c_1_1 := z; clear z)))))))); (try (have _ : w1.heap.size < w5.heap.size := (by omega); (try (apply fk hb5 (w1.heap.size); (focus (go_simp; rfl)); (focus (intro o; go_simp)); intro z; (try clear f1_0); have f1_0 := z; clear z)); (try (apply ck hb5 (w1.heap.size) 0; (focus (go_simp; rfl)); intro z; (try clear c1_0_0); have c1_0_0 := z; clear z; (try (apply ck hb5 (w1.heap.size) 1; (focus (go_simp; rfl)); intro z; (try clear c1_0_1); have c1_0_1 := z; clear z)))))); (try (have _ : w2.heap.size < w5.heap.size := (by omega); (try (apply fk hb5 (w2.heap.size); (focus (go_simp; rfl)); (focus (intro o; go_simp)); intro z; (try clear f2_0); have f2_0 := z; clear z)); (try (apply ck hb5 (w2.heap.size) 0; (focus (go_simp; rfl)); intro z; (try clear c2_0_0); have c2_0_0 := z; clear z; (try (apply ck hb5 (w2.heap.size) 1; (focus (go_simp; rfl)); intro z; (try clear c2_0_1); have c2_0_1 := z; clear z)))))); (try (have _ : w3.heap.size < w5.heap.size := (by omega); (try (apply fk hb5 (w3.heap.size); (focus (go_simp; rfl)); (focus (intro o; go_simp)); intro z; (try clear f3_0); have f3_0 := z; clear z)); (try (apply ck hb5 (w3.heap.size) 0; (focus (go_simp; rfl)); intro z; (try clear c3_0_0); have c3_0_0 := z; clear z; (try (apply ck hb5 (w3.heap.size) 1; (focus (go_simp; rfl)); intro z; (try clear c3_0_1); have c3_0_1 := z; clear z)))))); (try (have _ : w4.heap.size < w5.heap.size := (by omega); (try (apply fk hb5 (w4.heap.size); (focus (go_simp; rfl)); (focus (intro o; go_simp)); intro z; (try clear f4_0); have f4_0 := z; clear z)); (try (apply ck hb5 (w4.heap.size) 0; (focus (go_simp; rfl)); intro z; (try clear c4_0_0); have c4_0_0 := z; clear z; (try (apply ck hb5 (w4.heap.size) 1; (focus (go_simp; rfl)); intro z; (try clear c4_0_1); have c4_0_1 := z; clear z)))))); clear hle; (try (apply old_keep (w0 := w) (w := w5); (focus ((repeat (first | (with_reducible exact Up.refl _) | (with_reducible assumption) | (with_reducible refine Up.alloc ?_ _) | (with_reducible refine Up.drew ?_) | ((with_reducible refine Up.set ?_ ?_ _); rotate_left; focus (first | omega | (simp; done) | (simp; omega))) | (with_reducible refine Up.drewN ?_ _) | (with_reducible refine Up.call ?_ (by with_reducible assumption)))))); intro y z; (try clear hUp); (try clear hOld); have hUp := y; have hOld := z; clear y z)))))
    have E5 := SH.up HS.out (show Up wc w5 by (repeat (first | (with_reducible exact Up.refl _) | (with_reducible assumption) | (with_reducible refine Up.alloc ?_ _) | (with_reducible refine Up.drew ?_) | ((with_reducible refine Up.set ?_ ?_ _); rotate_left; focus (first | omega | (simp; done) | (simp; omega))) | (with_reducible refine Up.drewN ?_ _) | (with_reducible refine Up.call ?_ (by with_reducible assumption)))))
    have HE := hid E5
    clear E5
    go_cut [18] (fun s wx => s = .bool (bA && bX) ∧ SH w lo hi lo' hi' wx)
    case first =>
     as_aux_lemma =>
      clear HAd HLe HTi HBy Hxy HA HB HX
      rcases Hmeet.out with ⟨m, rfl, d1, d2⟩ | ⟨m, rfl, d1, d2, d3⟩ | ⟨m, rfl, d1, d2, d3⟩ | ⟨rfl, d1⟩
      · have He := hid d2
        clear d2
        go_wp2
        go_meet
        exact ⟨by rw [He.out], SH.up HE.out (by (repeat (first | (with_reducible exact Up.refl _) | (with_reducible assumption) | (with_reducible refine Up.alloc ?_ _) | (with_reducible refine Up.drew ?_) | ((with_reducible refine Up.set ?_ ?_ _); rotate_left; focus (first | omega | (simp; done) | (simp; omega))) | (with_reducible refine Up.drewN ?_ _) | (with_reducible refine Up.call ?_ (by with_reducible assumption)))))⟩
      · have He := hid d3
        clear d3
        go_wp2
        go_meet
        exact ⟨by rw [He.out], SH.up HE.out (by (repeat (first | (with_reducible exact Up.refl _) | (with_reducible assumption) | (with_reducible refine Up.alloc ?_ _) | (with_reducible refine Up.drew ?_) | ((with_reducible refine Up.set ?_ ?_ _); rotate_left; focus (first | omega | (simp; done) | (simp; omega))) | (with_reducible refine Up.drewN ?_ _) | (with_reducible refine Up.call ?_ (by with_reducible assumption)))))⟩
      · have He := hid d3
        clear d3
        go_wp2
        go_meet
        exact ⟨by rw [He.out], SH.up HE.out (by (repeat (first | (with_reducible exact Up.refl _) | (with_reducible assumption) | (with_reducible refine Up.alloc ?_ _) | (with_reducible refine Up.drew ?_) | ((with_reducible refine Up.set ?_ ?_ _); rotate_left; focus (first | omega | (simp; done) | (simp; omega))) | (with_reducible refine Up.drewN ?_ _) | (with_reducible refine Up.call ?_ (by with_reducible assumption)))))⟩
      · have He := hid d1
        clear d1
        go_wp2
        go_meet
        exact ⟨by rw [He.out], SH.up HE.out (by (repeat (first | (with_reducible exact Up.refl _) | (with_reducible assumption) | (with_reducible refine Up.alloc ?_ _) | (with_reducible refine Up.drew ?_) | ((with_reducible refine Up.set ?_ ?_ _); rotate_left; focus (first | omega | (simp; done) | (simp; omega))) | (with_reducible refine Up.drewN ?_ _) | (with_reducible refine Up.call ?_ (by with_reducible assumption)))))⟩
    case rest =>
    clear HE
    clear HS hU c0 g0 c1 g1 c2 g2 c3 g3 l0 l1
    (obtain ⟨rfl, hS⟩ := hcut; have HS := hid hS; obtain ⟨hU, ⟨c0, g0⟩, ⟨c1, g1⟩, ⟨c2, g2⟩, ⟨c3, g3⟩⟩ := hS; have l0 := World.block_lt_of_cell? _ _ c0; have l1 := World.block_lt_of_cell? _ _ c2; dsimp only at l0 l1)
    have HdE := hid (Hd.out.up hU)
    go_upto_region 14 with fail
    go_cut [136] (fun s wx => s = .bool false ∧ SH w lo hi lo' hi' wx)
    case first =>
     as_aux_lemma =>
      clear HAd HLe HTi HBy Hxy HA HB HX
      rcases Hmeet.out with ⟨m, rfl, d1, d2⟩ | ⟨m, rfl, d1, d2, d3⟩ | ⟨m, rfl, d1, d2, d3⟩ | ⟨rfl, d1⟩
      all_goals
        cases bA <;> cases bX
        all_goals
          first
            | (simp at d2; done)
            | (simp at d3; done)
            | (simp at d1; done)
            | (go_wp2_with (first
                        | ((go_at_call 15; (refine (serr_some _ _ _ (HdE.out.up (by (repeat (first | (with_reducible exact Up.refl _) | (with_reducible assumption) | (with_reducible refine Up.alloc ?_ _) | (with_reducible refine Up.drew ?_) | ((with_reducible refine Up.set ?_ ?_ _); rotate_left; focus (first | omega | (simp; done) | (simp; omega))) | (with_reducible refine Up.drewN ?_ _) | (with_reducible refine Up.call ?_ (by with_reducible assumption))))))).mono ?_); rintro e w6 ⟨rfl, hb6⟩) <;> (have hle := Up.le hb6; (try simp only [World.size_alloc, World.size_setCell, World.size_drew, World.heap_drewN] at hle); (try (have _ : w.heap.size < w6.heap.size := (by omega); (try (apply fk hb6 (w.heap.size); (focus (go_simp; rfl)); (focus (intro o; go_simp)); intro z; (try clear f_0); have f_0 := z; clear z)); (try (apply ck hb6 (w.heap.size) 0; (focus (go_simp; rfl)); intro z; (try clear c_0_0); have c_0_0 := z; clear z; (try (apply ck hb6 (w.heap.size) 1; (focus (go_simp; rfl)); intro z; (try clear c_0_1); have c_0_1 := z; clear z)))); (try (have _ : w.heap.size + 1 < w6.heap.size := (by omega); (try (apply fk hb6 (w.heap.size + 1); (focus (go_simp; rfl)); (focus (intro o; go_simp)); intro z; (try clear f_1); have f_1 := z; clear z)); (try (apply ck hb6 (w.heap.size + 1) 0; (focus (go_simp; rfl)); intro z; (try clear c_1_0); have c_1_0 := z; clear z; (try (apply ck hb6 (w.heap.size + 1) 1; (focus (go_simp; rfl)); intro z; (try clear c_1_1); have c_1_1 := z; clear z)))))))); (try (have _ : w1.heap.size < w6.heap.size := (by omega); (try (apply fk hb6 (w1.heap.size); (focus (go_simp; rfl)); (focus (intro o; go_simp)); intro z; (try clear f1_0); have f1_0 := z; clear z)); (try (apply ck hb6 (w1.heap.size) 0; (focus (go_simp; rfl)); intro z; (try clear c1_0_0); have c1_0_0 := z; clear z; (try (apply ck hb6 (w1.heap.size) 1; (focus (go_simp; rfl)); intro z; (try clear c1_0_1); have c1_0_1 := z; clear z)))))); (try (have _ : w2.heap.size < w6.heap.size := (by omega); (try (apply fk hb6 (w2.heap.size); (focus (go_simp; rfl)); (focus (intro o; go_simp)); intro z; (try clear f2_0); have f2_0 := z; clear z)); (try (apply ck hb6 (w2.heap.size) 0; (focus (go_simp; rfl)); intro z; (try clear c2_0_0); have c2_0_0 := z; clear z; (try (apply ck hb6 (w2.heap.size) 1; (focus (go_simp; rfl)); intro z; (try clear c2_0_1); have c2_0_1 := z; clear z)))))); (try (have _ : w3.heap.size < w6.heap.size := (by omega); (try (apply fk hb6 (w3.heap.size); (focus (go_simp; rfl)); (focus (intro o; go_simp)); intro z; (try clear f3_0); have f3_0 := z; clear z)); (try (apply ck hb6 (w3.heap.size) 0; (focus (go_simp; rfl)); intro z; (try clear c3_0_0); have c3_0_0 := z; clear z; (try (apply ck hb6 (w3.heap.size) 1; (focus (go_simp; rfl)); intro z; (try clear c3_0_1); have c3_0_1 := z; clear z)))))); (try (have _ : w4.heap.size < w6.heap.size := (by omega); (try (apply fk hb6 (w4.heap.size); (focus (go_simp; rfl)); (focus (intro o; go_simp)); intro z; (try clear f4_0); have f4_0 := z; clear z)); (try (apply ck hb6 (w4.heap.size) 0; (focus (go_simp; rfl)); intro z; (try clear c4_0_0); have c4_0_0 := z; clear z; (try (apply ck hb6 (w4.heap.size) 1; (focus (go_simp; rfl)); intro z; (try clear c4_0_1); have c4_0_1 := z; clear z)))))); (try (have _ : w5.heap.size < w6.heap.size := (by omega); (try (apply fk hb6 (w5.heap.size); (focus (go_simp; rfl)); (focus (intro o; go_simp)); intro z; (try clear f5_0); have f5_0 := z; clear z)); (try (apply ck hb6 (w5.heap.size) 0; (focus (go_simp; rfl)); intro z; (try clear c5_0_0); have c5_0_0 := z; clear z; (try (apply ck hb6 (w5.heap.size) 1; (focus (go_simp; rfl)); intro z; (try clear c5_0_1); have c5_0_1 := z; clear z)))))); clear hle; (try (apply old_keep (w0 := w) (w := w6); (focus ((repeat (first | (with_reducible exact Up.refl _) | (with_reducible assumption) | (with_reducible refine Up.alloc ?_ _) | (with_reducible refine Up.drew ?_) | ((with_reducible refine Up.set ?_ ?_ _); rotate_left; focus (first | omega | (simp; done) | (simp; omega))) | (with_reducible refine Up.drewN ?_ _) | (with_reducible refine Up.call ?_ (by with_reducible assumption)))))); intro y z; (try clear hUp); (try clear hOld); have hUp := y; have hOld := z; clear y z)))))
               go_meet
               exact ⟨rfl, SH.up HS.out (by (repeat (first | (with_reducible exact Up.refl _) | (with_reducible assumption) | (with_reducible refine Up.alloc ?_ _) | (with_reducible refine Up.drew ?_) | ((with_reducible refine Up.set ?_ ?_ _); rotate_left; focus (first | omega | (simp; done) | (simp; omega))) | (with_reducible refine Up.drewN ?_ _) | (with_reducible refine Up.call ?_ (by with_reducible assumption)))))⟩)
    case rest =>
    clear HdE
    clear HS hU c0 g0 c1 g1 c2 g2 c3 g3 l0 l1
    (obtain ⟨rfl, hS⟩ := hcut; have HS := hid hS; obtain ⟨hU, ⟨c0, g0⟩, ⟨c1, g1⟩, ⟨c2, g2⟩, ⟨c3, g3⟩⟩ := hS; have l0 := World.block_lt_of_cell? _ _ c0; have l1 := World.block_lt_of_cell? _ _ c2; dsimp only at l0 l1)
    cases bA
    · as_aux_lemma =>
      clear HAd HLe HTi HBy Hxy Hmeet HA HB HX
      go_wp2
      go_ret
      exact LawEnd.mk rfl (by (repeat (first | (with_reducible exact Up.refl _) | (with_reducible assumption) | (with_reducible refine Up.alloc ?_ _) | (with_reducible refine Up.drew ?_) | ((with_reducible refine Up.set ?_ ?_ _); rotate_left; focus (first | omega | (simp; done) | (simp; omega))) | (with_reducible refine Up.drewN ?_ _) | (with_reducible refine Up.call ?_ (by with_reducible assumption)))))
    · cases bB
      · go_wp2
        go_ret
        exact LawEnd.mk rfl (by (repeat (first | (with_reducible exact Up.refl _) | (with_reducible assumption) | (with_reducible refine Up.alloc ?_ _) | (with_reducible refine Up.drew ?_) | ((with_reducible refine Up.set ?_ ?_ _); rotate_left; focus (first | omega | (simp; done) | (simp; omega))) | (with_reducible refine Up.drewN ?_ _) | (with_reducible refine Up.call ?_ (by with_reducible assumption)))))
      · obtain ⟨⟨x1, x2⟩, ⟨y1, y2⟩, ⟨z1, z2⟩⟩ := Hxy.out rfl rfl
        have KAd := hid (okP_of (fun s h => HAd.out s h rfl rfl))
        have KLe := hid (okP_of (fun s h => HLe.out s h rfl rfl))
        have KTi := hid (okP_of (fun s h => HTi.out s h rfl rfl))
        have KBy := hid (okP_of (fun s h => HBy.out s h rfl rfl))
        clear HAd HLe HTi HBy Hmeet HB HX
        as_aux_lemma =>
          go_wp2_with (first
                        | ((go_at_call 31; (with_reducible refine (sadd_any _ _ _ _ _).mono ?_); rintro e w6 ⟨(n6|s6), hx6, rfl, hb6⟩ <;> (have F6 := KAd.out; rw [hx6] at F6; clear hx6; dsimp only [okP] at F6; rcases F6 with ⟨f61, f62⟩)) <;> (have hle := Up.le hb6; (try simp only [World.size_alloc, World.size_setCell, World.size_drew, World.heap_drewN] at hle); (try (have _ : w.heap.size < w6.heap.size := (by omega); (try (apply fk hb6 (w.heap.size); (focus (go_simp; rfl)); (focus (intro o; go_simp)); intro z; (try clear f_0); have f_0 := z; clear z)); (try (apply ck hb6 (w.heap.size) 0; (focus (go_simp; rfl)); intro z; (try clear c_0_0); have c_0_0 := z; clear z; (try (apply ck hb6 (w.heap.size) 1; (focus (go_simp; rfl)); intro z; (try clear c_0_1); have c_0_1 := z; clear z)))); (try (have _ : w.heap.size + 1 < w6.heap.size := (by omega); (try (apply fk hb6 (w.heap.size + 1); (focus (go_simp; rfl)); (focus (intro o; go_simp)); intro z; (try clear f_1); have f_1 := z; clear z)); (try (apply ck hb6 (w.heap.size + 1) 0; (focus (go_simp; rfl)); intro z; (try clear c_1_0); have c_1_0 := z; clear z; (try (apply ck hb6 (w.heap.size + 1) 1; (focus (go_simp; rfl)); intro z; (try clear c_1_1); have c_1_1 := z; clear z)))))))); (try (have _ : w1.heap.size < w6.heap.size := (by omega); (try (apply fk hb6 (w1.heap.size); (focus (go_simp; rfl)); (focus (intro o; go_simp)); intro z; (try clear f1_0); have f1_0 := z; clear z)); (try (apply ck hb6 (w1.heap.size) 0; (focus (go_simp; rfl)); intro z; (try clear c1_0_0); have c1_0_0 := z; clear z; (try (apply ck hb6 (w1.heap.size) 1; (focus (go_simp; rfl)); intro z; (try clear c1_0_1); have c1_0_1 := z; clear z)))))); (try (have _ : w2.heap.size < w6.heap.size := (by omega); (try (apply fk hb6 (w2.heap.size); (focus (go_simp; rfl)); (focus (intro o; go_simp)); intro z; (try clear f2_0); have f2_0 := z; clear z)); (try (apply ck hb6 (w2.heap.size) 0; (focus (go_simp; rfl)); intro z; (try clear c2_0_0); have c2_0_0 := z; clear z; (try (apply ck hb6 (w2.heap.size) 1; (focus (go_simp; rfl)); intro z; (try clear c2_0_1); have c2_0_1 := z; clear z)))))); (try (have _ : w3.heap.size < w6.heap.size := (by omega); (try (apply fk hb6 (w3.heap.size); (focus (go_simp; rfl)); (focus (intro o; go_simp)); intro z; (try clear f3_0); have f3_0 := z; clear z)); (try (apply ck hb6 (w3.heap.size) 0; (focus (go_simp; rfl)); intro z; (try clear c3_0_0); have c3_0_0 := z; clear z; (try (apply ck hb6 (w3.heap.size) 1; (focus (go_simp; rfl)); intro z; (try clear c3_0_1); have c3_0_1 := z; clear z)))))); (try (have _ : w4.heap.size < w6.heap.size := (by omega); (try (apply fk hb6 (w4.heap.size); (focus (go_simp; rfl)); (focus (intro o; go_simp)); intro z; (try clear f4_0); have f4_0 := z; clear z)); (try (apply ck hb6 (w4.heap.size) 0; (focus (go_simp; rfl)); intro z; (try clear c4_0_0); have c4_0_0 := z; clear z; (try (apply ck hb6 (w4.heap.size) 1; (focus (go_simp; rfl)); intro z; (try clear c4_0_1); have c4_0_1 := z; clear z)))))); (try (have _ : w5.heap.size < w6.heap.size := (by omega); (try (apply fk hb6 (w5.heap.size); (focus (go_simp; rfl)); (focus (intro o; go_simp)); intro z; (try clear f5_0); have f5_0 := z; clear z)); (try (apply ck hb6 (w5.heap.size) 0; (focus (go_simp; rfl)); intro z; (try clear c5_0_0); have c5_0_0 := z; clear z; (try (apply ck hb6 (w5.heap.size) 1; (focus (go_simp; rfl)); intro z; (try clear c5_0_1); have c5_0_1 := z; clear z)))))); clear hle; (try (apply old_keep (w0 := w) (w := w6); (focus ((repeat (first | (with_reducible exact Up.refl _) | (with_reducible assumption) | (with_reducible refine Up.alloc ?_ _) | (with_reducible refine Up.drew ?_) | ((with_reducible refine Up.set ?_ ?_ _); rotate_left; focus (first | omega | (simp; done) | (simp; omega))) | (with_reducible refine Up.drewN ?_ _) | (with_reducible refine Up.call ?_ (by with_reducible assumption)))))); intro y z; (try clear hUp); (try clear hOld); have hUp := y; have hOld := z; clear y z))))
                        | ((go_at_call 32; (with_reducible refine (sless_any _ _ _ _ _).mono ?_); rintro e w7 ⟨(n7|s7), hx7, rfl, hb7⟩ <;> (have F7 := KLe.out; rw [hx7] at F7; clear hx7; dsimp only [okP] at F7; rcases F7 with ⟨f71, f72⟩)) <;> (have hle := Up.le hb7; (try simp only [World.size_alloc, World.size_setCell, World.size_drew, World.heap_drewN] at hle); (try (have _ : w.heap.size < w7.heap.size := (by omega); (try (apply fk hb7 (w.heap.size); (focus (go_simp; rfl)); (focus (intro o; go_simp)); intro z; (try clear f_0); have f_0 := z; clear z)); (try (apply ck hb7 (w.heap.size) 0; (focus (go_simp; rfl)); intro z; (try clear c_0_0); have c_0_0 := z; clear z; (try (apply ck hb7 (w.heap.size) 1; (focus (go_simp; rfl)); intro z; (try clear c_0_1); have c_0_1 := z; clear z)))); (try (have _ : w.heap.size + 1 < w7.heap.size := (by omega); (try (apply fk hb7 (w.heap.size + 1); (focus (go_simp; rfl)); (focus (intro o; go_simp)); intro z; (try clear f_1); have f_1 := z; clear z)); (try (apply ck hb7 (w.heap.size + 1) 0; (focus (go_simp; rfl)); intro z; (try clear c_1_0); have c_1_0 := z; clear z; (try (apply ck hb7 (w.heap.size + 1) 1; (focus (go_simp; rfl)); intro z; (try clear c_1_1); have c_1_1 := z; clear z)))))))); (try (have _ : w1.heap.size < w7.heap.size := (by omega); (try (apply fk hb7 (w1.heap.size); (focus (go_simp; rfl)); (focus (intro o; go_simp)); intro z; (try clear f1_0); have f1_0 := z; clear z)); (try (apply ck hb7 (w1.heap.size) 0; (focus (go_simp; rfl)); intro z; (try clear c1_0_0); have c1_0_0 := z; clear z; (try (apply ck hb7 (w1.heap.size) 1; (focus (go_simp; rfl)); intro z; (try clear c1_0_1); have c1_0_1 := z; clear z)))))); (try (have _ : w2.heap.size < w7.heap.size := (by omega); (try (apply fk hb7 (w2.heap.size); (focus (go_simp; rfl)); (focus (intro o; go_simp)); intro z; (try clear f2_0); have f2_0 := z; clear z)); (try (apply ck hb7 (w2.heap.size) 0; (focus (go_simp; rfl)); intro z; (try clear c2_0_0); have c2_0_0 := z; clear z; (try (apply ck hb7 (w2.heap.size) 1; (focus (go_simp; rfl)); intro z; (try clear c2_0_1); have c2_0_1 := z; clear z)))))); (try (have _ : w3.heap.size < w7.heap.size := (by omega); (try (apply fk hb7 (w3.heap.size); (focus (go_simp; rfl)); (focus (intro o; go_simp)); intro z; (try clear f3_0); have f3_0 := z; clear z)); (try (apply ck hb7 (w3.heap.size) 0; (focus (go_simp; rfl)); intro z; (try clear c3_0_0); have c3_0_0 := z; clear z; (try (apply ck hb7 (w3.heap.size) 1; (focus (go_simp; rfl)); intro z; (try clear c3_0_1); have c3_0_1 := z; clear z)))))); (try (have _ : w4.heap.size < w7.heap.size := (by omega); (try (apply fk hb7 (w4.heap.size); (focus (go_simp; rfl)); (focus (intro o; go_simp)); intro z; (try clear f4_0); have f4_0 := z; clear z)); (try (apply ck hb7 (w4.heap.size) 0; (focus (go_simp; rfl)); intro z; (try clear c4_0_0); have c4_0_0 := z; clear z; (try (apply ck hb7 (w4.heap.size) 1; (focus (go_simp; rfl)); intro z; (try clear c4_0_1); have c4_0_1 := z; clear z)))))); (try (have _ : w5.heap.size < w7.heap.size := (by omega); (try (apply fk hb7 (w5.heap.size); (focus (go_simp; rfl)); (focus (intro o; go_simp)); intro z; (try clear f5_0); have f5_0 := z; clear z)); (try (apply ck hb7 (w5.heap.size) 0; (focus (go_simp; rfl)); intro z; (try clear c5_0_0); have c5_0_0 := z; clear z; (try (apply ck hb7 (w5.heap.size) 1; (focus (go_simp; rfl)); intro z; (try clear c5_0_1); have c5_0_1 := z; clear z)))))); (try (have _ : w6.heap.size < w7.heap.size := (by omega); (try (apply fk hb7 (w6.heap.size); (focus (go_simp; rfl)); (focus (intro o; go_simp)); intro z; (try clear f6_0); have f6_0 := z; clear z)); (try (apply ck hb7 (w6.heap.size) 0; (focus (go_simp; rfl)); intro z; (try clear c6_0_0); have c6_0_0 := z; clear z; (try (apply ck hb7 (w6.heap.size) 1; (focus (go_simp; rfl)); intro z; (try clear c6_0_1); have c6_0_1 := z; clear z)))))); clear hle; (try (apply old_keep (w0 := w) (w := w7); (focus ((repeat (first | (with_reducible exact Up.refl _) | (with_reducible assumption) | (with_reducible refine Up.alloc ?_ _) | (with_reducible refine Up.drew ?_) | ((with_reducible refine Up.set ?_ ?_ _); rotate_left; focus (first | omega | (simp; done) | (simp; omega))) | (with_reducible refine Up.drewN ?_ _) | (with_reducible refine Up.call ?_ (by with_reducible assumption)))))); intro y z; (try clear hUp); (try clear hOld); have hUp := y; have hOld := z; clear y z))))
                        | ((go_at_call 33; (with_reducible refine (stimes_any _ _ _ _ _).mono ?_); rintro e w8 ⟨(n8|s8), hx8, rfl, hb8⟩ <;> (have F8 := KTi.out; rw [hx8] at F8; clear hx8; dsimp only [okP] at F8; rcases F8 with ⟨f81, f82, f83, f84, f85, f86⟩)) <;> (have hle := Up.le hb8; (try simp only [World.size_alloc, World.size_setCell, World.size_drew, World.heap_drewN] at hle); (try (have _ : w.heap.size < w8.heap.size := (by omega); (try (apply fk hb8 (w.heap.size); (focus (go_simp; rfl)); (focus (intro o; go_simp)); intro z; (try clear f_0); have f_0 := z; clear z)); (try (apply ck hb8 (w.heap.size) 0; (focus (go_simp; rfl)); intro z; (try clear c_0_0); have c_0_0 := z; clear z; (try (apply ck hb8 (w.heap.size) 1; (focus (go_simp; rfl)); intro z; (try clear c_0_1); have c_0_1 := z; clear z)))); (try (have _ : w.heap.size + 1 < w8.heap.size := (by omega); (try (apply fk hb8 (w.heap.size + 1); (focus (go_simp; rfl)); (focus (intro o; go_simp)); intro z; (try clear f_1); have f_1 := z; clear z)); (try (apply ck hb8 (w.heap.size + 1) 0; (focus (go_simp; rfl)); intro z; (try clear c_1_0); have c_1_0 := z; clear z; (try (apply ck hb8 (w.heap.size + 1) 1; (focus (go_simp; rfl)); intro z; (try clear c_1_1); have c_1_1 := z; clear z)))))))); (try (have _ : w1.heap.size < w8.heap.size := (by omega); (try (apply fk hb8 (w1.heap.size); (focus (go_simp; rfl)); (focus (intro o; go_simp)); intro z; (try clear f1_0); have f1_0 := z; clear z)); (try (apply ck hb8 (w1.heap.size) 0; (focus (go_simp; rfl)); intro z; (try clear c1_0_0); have c1_0_0 := z; clear z; (try (apply ck hb8 (w1.heap.size) 1; (focus (go_simp; rfl)); intro z; (try clear c1_0_1); have c1_0_1 := z; clear z)))))); (try (have _ : w2.heap.size < w8.heap.size := (by omega); (try (apply fk hb8 (w2.heap.size); (focus (go_simp; rfl)); (focus (intro o; go_simp)); intro z; (try clear f2_0); have f2_0 := z; clear z)); (try (apply ck hb8 (w2.heap.size) 0; (focus (go_simp; rfl)); intro z; (try clear c2_0_0); have c2_0_0 := z; clear z; (try (apply ck hb8 (w2.heap.size) 1; (focus (go_simp; rfl)); intro z; (try clear c2_0_1); have c2_0_1 := z; clear z)))))); (try (have _ : w3.heap.size < w8.heap.size := (by omega); (try (apply fk hb8 (w3.heap.size); (focus (go_simp; rfl)); (focus (intro o; go_simp)); intro z; (try clear f3_0); have f3_0 := z; clear z)); (try (apply ck hb8 (w3.heap.size) 0; (focus (go_simp; rfl)); intro z; (try clear c3_0_0); have c3_0_0 := z; clear z; (try (apply ck hb8 (w3.heap.size) 1; (focus (go_simp; rfl)); intro z; (try clear c3_0_1); have c3_0_1 := z; clear z)))))); (try (have _ : w4.heap.size < w8.heap.size := (by omega); (try (apply fk hb8 (w4.heap.size); (focus (go_simp; rfl)); (focus (intro o; go_simp)); intro z; (try clear f4_0); have f4_0 := z; clear z)); (try (apply ck hb8 (w4.heap.size) 0; (focus (go_simp; rfl)); intro z; (try clear c4_0_0); have c4_0_0 := z; clear z; (try (apply ck hb8 (w4.heap.size) 1; (focus (go_simp; rfl)); intro z; (try clear c4_0_1); have c4_0_1 := z; clear z)))))); (try (have _ : w5.heap.size < w8.heap.size := (by omega); (try (apply fk hb8 (w5.heap.size); (focus (go_simp; rfl)); (focus (intro o; go_simp)); intro z; (try clear f5_0); have f5_0 := z; clear z)); (try (apply ck hb8 (w5.heap.size) 0; (focus (go_simp; rfl)); intro z; (try clear c5_0_0); have c5_0_0 := z; clear z; (try (apply ck hb8 (w5.heap.size) 1; (focus (go_simp; rfl)); intro z; (try clear c5_0_1); have c5_0_1 := z; clear z)))))); (try (have _ : w6.heap.size < w8.heap.size := (by omega); (try (apply fk hb8 (w6.heap.size); (focus (go_simp; rfl)); (focus (intro o; go_simp)); intro z; (try clear f6_0); have f6_0 := z; clear z)); (try (apply ck hb8 (w6.heap.size) 0; (focus (go_simp; rfl)); intro z; (try clear c6_0_0); have c6_0_0 := z; clear z; (try (apply ck hb8 (w6.heap.size) 1; (focus (go_simp; rfl)); intro z; (try clear c6_0_1); have c6_0_1 := z; clear z)))))); (try (have _ : w7.heap.size < w8.heap.size := (by omega); (try (apply fk hb8 (w7.heap.size); (focus (go_simp; rfl)); (focus (intro o; go_simp)); intro z; (try clear f7_0); have f7_0 := z; clear z)); (try (apply ck hb8 (w7.heap.size) 0; (focus (go_simp; rfl)); intro z; (try clear c7_0_0); have c7_0_0 := z; clear z; (try (apply ck hb8 (w7.heap.size) 1; (focus (go_simp; rfl)); intro z; (try clear c7_0_1); have c7_0_1 := z; clear z)))))); clear hle; (try (apply old_keep (w0 := w) (w := w8); (focus ((repeat (first | (with_reducible exact Up.refl _) | (with_reducible assumption) | (with_reducible refine Up.alloc ?_ _) | (with_reducible refine Up.drew ?_) | ((with_reducible refine Up.set ?_ ?_ _); rotate_left; focus (first | omega | (simp; done) | (simp; omega))) | (with_reducible refine Up.drewN ?_ _) | (with_reducible refine Up.call ?_ (by with_reducible assumption)))))); intro y z; (try clear hUp); (try clear hOld); have hUp := y; have hOld := z; clear y z))))
                        | ((go_at_call 34; (with_reducible refine (sby_any _ _ _ _ _).mono ?_); rintro e w9 ⟨(n9|s9), hx9, rfl, hb9⟩ <;> (have F9 := KBy.out; rw [hx9] at F9; clear hx9; dsimp only [okP] at F9; rcases F9 with ⟨⟨f91, f92, f93, f94⟩, (⟨f95, f96, f97⟩ | ⟨f95, f96, f97, f98⟩)⟩)) <;> (have hle := Up.le hb9; (try simp only [World.size_alloc, World.size_setCell, World.size_drew, World.heap_drewN] at hle); (try (have _ : w.heap.size < w9.heap.size := (by omega); (try (apply fk hb9 (w.heap.size); (focus (go_simp; rfl)); (focus (intro o; go_simp)); intro z; (try clear f_0); have f_0 := z; clear z)); (try (apply ck hb9 (w.heap.size) 0; (focus (go_simp; rfl)); intro z; (try clear c_0_0); have c_0_0 := z; clear z; (try (apply ck hb9 (w.heap.size) 1; (focus (go_simp; rfl)); intro z; (try clear c_0_1); have c_0_1 := z; clear z)))); (try (have _ : w.heap.size + 1 < w9.heap.size := (by omega); (try (apply fk hb9 (w.heap.size + 1); (focus (go_simp; rfl)); (focus (intro o; go_simp)); intro z; (try clear f_1); have f_1 := z; clear z)); (try (apply ck hb9 (w.heap.size + 1) 0; (focus (go_simp; rfl)); intro z; (try clear c_1_0); have c_1_0 := z; clear z; (try (apply ck hb9 (w.heap.size + 1) 1; (focus (go_simp; rfl)); intro z; (try clear c_1_1); have c_1_1 := z; clear z)))))))); (try (have _ : w1.heap.size < w9.heap.size := (by omega); (try (apply fk hb9 (w1.heap.size); (focus (go_simp; rfl)); (focus (intro o; go_simp)); intro z; (try clear f1_0); have f1_0 := z; clear z)); (try (apply ck hb9 (w1.heap.size) 0; (focus (go_simp; rfl)); intro z; (try clear c1_0_0); have c1_0_0 := z; clear z; (try (apply ck hb9 (w1.heap.size) 1; (focus (go_simp; rfl)); intro z; (try clear c1_0_1); have c1_0_1 := z; clear z)))))); (try (have _ : w2.heap.size < w9.heap.size := (by omega); (try (apply fk hb9 (w2.heap.size); (focus (go_simp; rfl)); (focus (intro o; go_simp)); intro z; (try clear f2_0); have f2_0 := z; clear z)); (try (apply ck hb9 (w2.heap.size) 0; (focus (go_simp; rfl)); intro z; (try clear c2_0_0); have c2_0_0 := z; clear z; (try (apply ck hb9 (w2.heap.size) 1; (focus (go_simp; rfl)); intro z; (try clear c2_0_1); have c2_0_1 := z; clear z)))))); (try (have _ : w3.heap.size < w9.heap.size := (by omega); (try (apply fk hb9 (w3.heap.size); (focus (go_simp; rfl)); (focus (intro o; go_simp)); intro z; (try clear f3_0); have f3_0 := z; clear z)); (try (apply ck hb9 (w3.heap.size) 0; (focus (go_simp; rfl)); intro z; (try clear c3_0_0); have c3_0_0 := z; clear z; (try (apply ck hb9 (w3.heap.size) 1; (focus (go_simp; rfl)); intro z; (try clear c3_0_1); have c3_0_1 := z; clear z)))))); (try (have _ : w4.heap.size < w9.heap.size := (by omega); (try (apply fk hb9 (w4.heap.size); (focus (go_simp; rfl)); (focus (intro o; go_simp)); intro z; (try clear f4_0); have f4_0 := z; clear z)); (try (apply ck hb9 (w4.heap.size) 0; (focus (go_simp; rfl)); intro z; (try clear c4_0_0); have c4_0_0 := z; clear z; (try (apply ck hb9 (w4.heap.size) 1; (focus (go_simp; rfl)); intro z; (try clear c4_0_1); have c4_0_1 := z; clear z)))))); (try (have _ : w5.heap.size < w9.heap.size := (by omega); (try (apply fk hb9 (w5.heap.size); (focus (go_simp; rfl)); (focus (intro o; go_simp)); intro z; (try clear f5_0); have f5_0 := z; clear z)); (try (apply ck hb9 (w5.heap.size) 0; (focus (go_simp; rfl)); intro z; (try clear c5_0_0); have c5_0_0 := z; clear z; (try (apply ck hb9 (w5.heap.size) 1; (focus (go_simp; rfl)); intro z; (try clear c5_0_1); have c5_0_1 := z; clear z)))))); (try (have _ : w6.heap.size < w9.heap.size := (by omega); (try (apply fk hb9 (w6.heap.size); (focus (go_simp; rfl)); (focus (intro o; go_simp)); intro z; (try clear f6_0); have f6_0 := z; clear z)); (try (apply ck hb9 (w6.heap.size) 0; (focus (go_simp; rfl)); intro z; (try clear c6_0_0); have c6_0_0 := z; clear z; (try (apply ck hb9 (w6.heap.size) 1; (focus (go_simp; rfl)); intro z; (try clear c6_0_1); have c6_0_1 := z; clear z)))))); (try (have _ : w7.heap.size < w9.heap.size := (by omega); (try (apply fk hb9 (w7.heap.size); (focus (go_simp; rfl)); (focus (intro o; go_simp)); intro z; (try clear f7_0); have f7_0 := z; clear z)); (try (apply ck hb9 (w7.heap.size) 0; (focus (go_simp; rfl)); intro z; (try clear c7_0_0); have c7_0_0 := z; clear z; (try (apply ck hb9 (w7.heap.size) 1; (focus (go_simp; rfl)); intro z; (try clear c7_0_1); have c7_0_1 := z; clear z)))))); (try (have _ : w8.heap.size < w9.heap.size := (by omega); (try (apply fk hb9 (w8.heap.size); (focus (go_simp; rfl)); (focus (intro o; go_simp)); intro z; (try clear f8_0); have f8_0 := z; clear z)); (try (apply ck hb9 (w8.heap.size) 0; (focus (go_simp; rfl)); intro z; (try clear c8_0_0); have c8_0_0 := z; clear z; (try (apply ck hb9 (w8.heap.size) 1; (focus (go_simp; rfl)); intro z; (try clear c8_0_1); have c8_0_1 := z; clear z)))))); clear hle; (try (apply old_keep (w0 := w) (w := w9); (focus ((repeat (first | (with_reducible exact Up.refl _) | (with_reducible assumption) | (with_reducible refine Up.alloc ?_ _) | (with_reducible refine Up.drew ?_) | ((with_reducible refine Up.set ?_ ?_ _); rotate_left; focus (first | omega | (simp; done) | (simp; omega))) | (with_reducible refine Up.drewN ?_ _) | (with_reducible refine Up.call ?_ (by with_reducible assumption)))))); intro y z; (try clear hUp); (try clear hOld); have hUp := y; have hOld := z; clear y z)))))
          all_goals
            go_ret
            exact LawEnd.mk (by first | rfl | (simp; done)) (by (repeat (first | (with_reducible exact Up.refl _) | (with_reducible assumption) | (with_reducible refine Up.alloc ?_ _) | (with_reducible refine Up.drew ?_) | ((with_reducible refine Up.set ?_ ?_ _); rotate_left; focus (first | omega | (simp; done) | (simp; omega))) | (with_reducible refine Up.drewN ?_ _) | (with_reducible refine Up.call ?_ (by with_reducible assumption)))))
set_option maxRecDepth 100000 in
set_option maxHeartbeats 8000000 in
theorem spanHas_walk (lo hi lo' hi' x y : Int) (w : World) (_h : I64 lo ∧ I64 hi) (_h' : I64 lo' ∧ I64 hi') (hx : I64 x) (hy : I64 y) (hd : Door w) :
    Calls Tryd.prog 6 #[.agg #[.int .i64 lo, .int .i64 hi], .agg #[.int .i64 lo', .int .i64 hi'], .int .i64 x, .int .i64 y] w (LawEnd w) := by
  have HF := hid fact_stimes
  cases ha : checkF ⟨lo, hi⟩ with
  | some e =>
    have Ha := hid ha
    clear ha _h _h' hx hy hd
    go_enter Tryd.func6, Tryd.ntmps6
    go_wp2_with (first
                        | ((go_at_call 33; (with_reducible refine (stimes_any _ _ _ _ _).mono ?_); rintro e w1 ⟨x1, hx1, rfl, hb1⟩ <;> (rw [HF.out] at hx1; subst hx1)) <;> (have hle := Up.le hb1; (try simp only [World.size_alloc, World.size_setCell, World.size_drew, World.heap_drewN] at hle); (try (have _ : w.heap.size < w1.heap.size := (by omega); (try (apply fk hb1 (w.heap.size); (focus (go_simp; rfl)); (focus (intro o; go_simp)); intro z; (try clear f_0); have f_0 := z; clear z)); (try (apply ck hb1 (w.heap.size) 0; (focus (go_simp; rfl)); intro z; (try clear c_0_0); have c_0_0 := z; clear z; (try (apply ck hb1 (w.heap.size) 1; (focus (go_simp; rfl)); intro z; (try clear c_0_1); have c_0_1 := z; clear z)))); (try (have _ : w.heap.size + 1 < w1.heap.size := (by omega); (try (apply fk hb1 (w.heap.size + 1); (focus (go_simp; rfl)); (focus (intro o; go_simp)); intro z; (try clear f_1); have f_1 := z; clear z)); (try (apply ck hb1 (w.heap.size + 1) 0; (focus (go_simp; rfl)); intro z; (try clear c_1_0); have c_1_0 := z; clear z; (try (apply ck hb1 (w.heap.size + 1) 1; (focus (go_simp; rfl)); intro z; (try clear c_1_1); have c_1_1 := z; clear z)))))))); clear hle; (try (apply old_keep (w0 := w) (w := w1); (focus ((repeat (first | (with_reducible exact Up.refl _) | (with_reducible assumption) | (with_reducible refine Up.alloc ?_ _) | (with_reducible refine Up.drew ?_) | ((with_reducible refine Up.set ?_ ?_ _); rotate_left; focus (first | omega | (simp; done) | (simp; omega))) | (with_reducible refine Up.drewN ?_ _) | (with_reducible refine Up.call ?_ (by with_reducible assumption)))))); intro y z; (try clear hUp); (try clear hOld); have hUp := y; have hOld := z; clear y z))))
                        | ((go_at_call 23; (with_reducible refine (check_any lo hi _).mono ?_); rintro e w2 ⟨x2, hx2, rfl, hb2⟩ <;> (rw [Ha.out] at hx2; subst hx2)) <;> (have hle := Up.le hb2; (try simp only [World.size_alloc, World.size_setCell, World.size_drew, World.heap_drewN] at hle); (try (have _ : w.heap.size < w2.heap.size := (by omega); (try (apply fk hb2 (w.heap.size); (focus (go_simp; rfl)); (focus (intro o; go_simp)); intro z; (try clear f_0); have f_0 := z; clear z)); (try (apply ck hb2 (w.heap.size) 0; (focus (go_simp; rfl)); intro z; (try clear c_0_0); have c_0_0 := z; clear z; (try (apply ck hb2 (w.heap.size) 1; (focus (go_simp; rfl)); intro z; (try clear c_0_1); have c_0_1 := z; clear z)))); (try (have _ : w.heap.size + 1 < w2.heap.size := (by omega); (try (apply fk hb2 (w.heap.size + 1); (focus (go_simp; rfl)); (focus (intro o; go_simp)); intro z; (try clear f_1); have f_1 := z; clear z)); (try (apply ck hb2 (w.heap.size + 1) 0; (focus (go_simp; rfl)); intro z; (try clear c_1_0); have c_1_0 := z; clear z; (try (apply ck hb2 (w.heap.size + 1) 1; (focus (go_simp; rfl)); intro z; (try clear c_1_1); have c_1_1 := z; clear z)))))))); (try (have _ : w1.heap.size < w2.heap.size := (by omega); (try (apply fk hb2 (w1.heap.size); (focus (go_simp; rfl)); (focus (intro o; go_simp)); intro z; (try clear f1_0); have f1_0 := z; clear z)); (try (apply ck hb2 (w1.heap.size) 0; (focus (go_simp; rfl)); intro z; (try clear c1_0_0); have c1_0_0 := z; clear z; (try (apply ck hb2 (w1.heap.size) 1; (focus (go_simp; rfl)); intro z; (try clear c1_0_1); have c1_0_1 := z; clear z)))))); clear hle; (try (apply old_keep (w0 := w) (w := w2); (focus ((repeat (first | (with_reducible exact Up.refl _) | (with_reducible assumption) | (with_reducible refine Up.alloc ?_ _) | (with_reducible refine Up.drew ?_) | ((with_reducible refine Up.set ?_ ?_ _); rotate_left; focus (first | omega | (simp; done) | (simp; omega))) | (with_reducible refine Up.drewN ?_ _) | (with_reducible refine Up.call ?_ (by with_reducible assumption)))))); intro y z; (try clear hUp); (try clear hOld); have hUp := y; have hOld := z; clear y z)))))
    all_goals
      go_ret
      refine LawEnd.mk rfl ?_
      (repeat (first | (with_reducible exact Up.refl _) | (with_reducible assumption) | (with_reducible refine Up.alloc ?_ _) | (with_reducible refine Up.drew ?_) | ((with_reducible refine Up.set ?_ ?_ _); rotate_left; focus (first | omega | (simp; done) | (simp; omega))) | (with_reducible refine Up.drewN ?_ _) | (with_reducible refine Up.call ?_ (by with_reducible assumption))))
  | none =>
    cases hb : checkF ⟨lo', hi'⟩ with
    | some e =>
      have Ha := hid ha; have Hb := hid hb
      clear ha hb _h _h' hx hy hd
      go_enter Tryd.func6, Tryd.ntmps6
      go_wp2_with (first
                        | ((go_at_call 33; (with_reducible refine (stimes_any _ _ _ _ _).mono ?_); rintro e w1 ⟨x1, hx1, rfl, hb1⟩ <;> (rw [HF.out] at hx1; subst hx1)) <;> (have hle := Up.le hb1; (try simp only [World.size_alloc, World.size_setCell, World.size_drew, World.heap_drewN] at hle); (try (have _ : w.heap.size < w1.heap.size := (by omega); (try (apply fk hb1 (w.heap.size); (focus (go_simp; rfl)); (focus (intro o; go_simp)); intro z; (try clear f_0); have f_0 := z; clear z)); (try (apply ck hb1 (w.heap.size) 0; (focus (go_simp; rfl)); intro z; (try clear c_0_0); have c_0_0 := z; clear z; (try (apply ck hb1 (w.heap.size) 1; (focus (go_simp; rfl)); intro z; (try clear c_0_1); have c_0_1 := z; clear z)))); (try (have _ : w.heap.size + 1 < w1.heap.size := (by omega); (try (apply fk hb1 (w.heap.size + 1); (focus (go_simp; rfl)); (focus (intro o; go_simp)); intro z; (try clear f_1); have f_1 := z; clear z)); (try (apply ck hb1 (w.heap.size + 1) 0; (focus (go_simp; rfl)); intro z; (try clear c_1_0); have c_1_0 := z; clear z; (try (apply ck hb1 (w.heap.size + 1) 1; (focus (go_simp; rfl)); intro z; (try clear c_1_1); have c_1_1 := z; clear z)))))))); clear hle; (try (apply old_keep (w0 := w) (w := w1); (focus ((repeat (first | (with_reducible exact Up.refl _) | (with_reducible assumption) | (with_reducible refine Up.alloc ?_ _) | (with_reducible refine Up.drew ?_) | ((with_reducible refine Up.set ?_ ?_ _); rotate_left; focus (first | omega | (simp; done) | (simp; omega))) | (with_reducible refine Up.drewN ?_ _) | (with_reducible refine Up.call ?_ (by with_reducible assumption)))))); intro y z; (try clear hUp); (try clear hOld); have hUp := y; have hOld := z; clear y z))))
                        | ((go_at_call 23; (with_reducible refine (check_any lo hi _).mono ?_); rintro e w2 ⟨x2, hx2, rfl, hb2⟩ <;> (rw [Ha.out] at hx2; subst hx2)) <;> (have hle := Up.le hb2; (try simp only [World.size_alloc, World.size_setCell, World.size_drew, World.heap_drewN] at hle); (try (have _ : w.heap.size < w2.heap.size := (by omega); (try (apply fk hb2 (w.heap.size); (focus (go_simp; rfl)); (focus (intro o; go_simp)); intro z; (try clear f_0); have f_0 := z; clear z)); (try (apply ck hb2 (w.heap.size) 0; (focus (go_simp; rfl)); intro z; (try clear c_0_0); have c_0_0 := z; clear z; (try (apply ck hb2 (w.heap.size) 1; (focus (go_simp; rfl)); intro z; (try clear c_0_1); have c_0_1 := z; clear z)))); (try (have _ : w.heap.size + 1 < w2.heap.size := (by omega); (try (apply fk hb2 (w.heap.size + 1); (focus (go_simp; rfl)); (focus (intro o; go_simp)); intro z; (try clear f_1); have f_1 := z; clear z)); (try (apply ck hb2 (w.heap.size + 1) 0; (focus (go_simp; rfl)); intro z; (try clear c_1_0); have c_1_0 := z; clear z; (try (apply ck hb2 (w.heap.size + 1) 1; (focus (go_simp; rfl)); intro z; (try clear c_1_1); have c_1_1 := z; clear z)))))))); (try (have _ : w1.heap.size < w2.heap.size := (by omega); (try (apply fk hb2 (w1.heap.size); (focus (go_simp; rfl)); (focus (intro o; go_simp)); intro z; (try clear f1_0); have f1_0 := z; clear z)); (try (apply ck hb2 (w1.heap.size) 0; (focus (go_simp; rfl)); intro z; (try clear c1_0_0); have c1_0_0 := z; clear z; (try (apply ck hb2 (w1.heap.size) 1; (focus (go_simp; rfl)); intro z; (try clear c1_0_1); have c1_0_1 := z; clear z)))))); clear hle; (try (apply old_keep (w0 := w) (w := w2); (focus ((repeat (first | (with_reducible exact Up.refl _) | (with_reducible assumption) | (with_reducible refine Up.alloc ?_ _) | (with_reducible refine Up.drew ?_) | ((with_reducible refine Up.set ?_ ?_ _); rotate_left; focus (first | omega | (simp; done) | (simp; omega))) | (with_reducible refine Up.drewN ?_ _) | (with_reducible refine Up.call ?_ (by with_reducible assumption)))))); intro y z; (try clear hUp); (try clear hOld); have hUp := y; have hOld := z; clear y z))))
                        | ((go_at_call 23; (with_reducible refine (check_any lo' hi' _).mono ?_); rintro e w3 ⟨x3, hx3, rfl, hb3⟩ <;> (rw [Hb.out] at hx3; subst hx3)) <;> (have hle := Up.le hb3; (try simp only [World.size_alloc, World.size_setCell, World.size_drew, World.heap_drewN] at hle); (try (have _ : w.heap.size < w3.heap.size := (by omega); (try (apply fk hb3 (w.heap.size); (focus (go_simp; rfl)); (focus (intro o; go_simp)); intro z; (try clear f_0); have f_0 := z; clear z)); (try (apply ck hb3 (w.heap.size) 0; (focus (go_simp; rfl)); intro z; (try clear c_0_0); have c_0_0 := z; clear z; (try (apply ck hb3 (w.heap.size) 1; (focus (go_simp; rfl)); intro z; (try clear c_0_1); have c_0_1 := z; clear z)))); (try (have _ : w.heap.size + 1 < w3.heap.size := (by omega); (try (apply fk hb3 (w.heap.size + 1); (focus (go_simp; rfl)); (focus (intro o; go_simp)); intro z; (try clear f_1); have f_1 := z; clear z)); (try (apply ck hb3 (w.heap.size + 1) 0; (focus (go_simp; rfl)); intro z; (try clear c_1_0); have c_1_0 := z; clear z; (try (apply ck hb3 (w.heap.size + 1) 1; (focus (go_simp; rfl)); intro z; (try clear c_1_1); have c_1_1 := z; clear z)))))))); (try (have _ : w1.heap.size < w3.heap.size := (by omega); (try (apply fk hb3 (w1.heap.size); (focus (go_simp; rfl)); (focus (intro o; go_simp)); intro z; (try clear f1_0); have f1_0 := z; clear z)); (try (apply ck hb3 (w1.heap.size) 0; (focus (go_simp; rfl)); intro z; (try clear c1_0_0); have c1_0_0 := z; clear z; (try (apply ck hb3 (w1.heap.size) 1; (focus (go_simp; rfl)); intro z; (try clear c1_0_1); have c1_0_1 := z; clear z)))))); (try (have _ : w2.heap.size < w3.heap.size := (by omega); (try (apply fk hb3 (w2.heap.size); (focus (go_simp; rfl)); (focus (intro o; go_simp)); intro z; (try clear f2_0); have f2_0 := z; clear z)); (try (apply ck hb3 (w2.heap.size) 0; (focus (go_simp; rfl)); intro z; (try clear c2_0_0); have c2_0_0 := z; clear z; (try (apply ck hb3 (w2.heap.size) 1; (focus (go_simp; rfl)); intro z; (try clear c2_0_1); have c2_0_1 := z; clear z)))))); clear hle; (try (apply old_keep (w0 := w) (w := w3); (focus ((repeat (first | (with_reducible exact Up.refl _) | (with_reducible assumption) | (with_reducible refine Up.alloc ?_ _) | (with_reducible refine Up.drew ?_) | ((with_reducible refine Up.set ?_ ?_ _); rotate_left; focus (first | omega | (simp; done) | (simp; omega))) | (with_reducible refine Up.drewN ?_ _) | (with_reducible refine Up.call ?_ (by with_reducible assumption)))))); intro y z; (try clear hUp); (try clear hOld); have hUp := y; have hOld := z; clear y z)))))
      all_goals
        go_ret
        refine LawEnd.mk rfl ?_
        (repeat (first | (with_reducible exact Up.refl _) | (with_reducible assumption) | (with_reducible refine Up.alloc ?_ _) | (with_reducible refine Up.drew ?_) | ((with_reducible refine Up.set ?_ ?_ _); rotate_left; focus (first | omega | (simp; done) | (simp; omega))) | (with_reducible refine Up.drewN ?_ _) | (with_reducible refine Up.call ?_ (by with_reducible assumption))))
    | none =>
      refine sh_main lo hi lo' hi' x y w hd (checkF_none.1 ha) (checkF_none.1 hb) hx hy rfl ?_
      cases hm : comF ⟨lo, hi⟩ ⟨lo', hi'⟩ with
      | ok m => exact .inl ⟨m, rfl⟩
      | error e =>
        obtain rfl := com_err5 hm
        exact .inr rfl
set_option maxRecDepth 100000 in
theorem spanHas_lifted (os : Os) (started : os.Started) (H : Type) (enc : TypeId × Value → H) :
    ReturnsInHanded {} Tryd.checked os 6 .any (fun w args => (Rows.spanHasSpec.pre enc Tryd.prog Tryd.f6 [] false w args ∧ laidMetH Tryd.prog laidL w) ∧ sizedMet enc Tryd.prog Tryd.f6 (OpenSpec.ofChange Rows.spanHasSpec) false w args) (Rows.spanHasSpec.post enc Tryd.prog Tryd.f6 false true false false) := by
  refine returnsInHanded_of_change_and (C := Tryd.checked) (X := fun w _ => laidMetH Tryd.prog laidL w) (fun _ _ _ hh h => h.of_heap hh) Tryd.own started (by kernel_rfl) Tryd.func6
    (ChangeSpec.witness_at (enc := enc) (C := Tryd.checked) (os := os) (X := fun w _ => laidMetH Tryd.prog laidL w) false (laidWorld os) #[.agg #[.int .i64 0, .int .i64 0], .agg #[.int .i64 0, .int .i64 0], .int .i64 0, .int .i64 0] 8 rfl (by kernel_rfl) (by kernel_rfl) (by kernel_rfl) (by kernel_rfl) (by kernel_rfl) (laidWorld_met os _)) ?_
  intro W base args ds gs before hval0 hW _ _ hL _
  have hdoor := door_of_laid hL
  have hval : ∀ (j : Nat) t v, Tryd.f6.params[j]? = some t → args[j]? = some v → Value.okWide Tryd.prog W .any base t v := hval0
  have hW' := hW
  obtain ⟨p, q, hA0, hV, rfl, hfz, hnd⟩ := hW
  have hA : DataW.TrodAll enc Tryd.prog W 0 (fun _ => true) true Tryd.f6.params.toList args.toList ds p := hA0
  rw [Tryd.params6] at hA hval
  obtain ⟨v0, v1, v2, v3, d0, d1, d2, d3, p0, p1, p2, p3, rfl, rfl, rfl, h0, h1, h2, h3⟩ := trodAll_four hA
  obtain ⟨rfl, rfl⟩ := trodVars_none hV
  obtain ⟨lo0, hi0, rfl, w0a, w0b⟩ := open_span (ti := 3) Tryd.underlying29 rfl rfl Tryd.underlying3 (by kernel_rfl) Tryd.cellsSpan (hval 0 29 _ rfl rfl) h0
  obtain ⟨lo1, hi1, rfl, w1a, w1b⟩ := open_span (ti := 3) Tryd.underlying29 rfl rfl Tryd.underlying3 (by kernel_rfl) Tryd.cellsSpan (hval 1 29 _ rfl rfl) h1
  obtain ⟨n2, rfl, w2⟩ := open_i64 Tryd.underlying3 (hval 2 3 _ rfl rfl) h2
  obtain ⟨n3, rfl, w3⟩ := open_i64 Tryd.underlying3 (hval 3 3 _ rfl rfl) h3
  clear hA0 hval0
  refine (spanHas_walk lo0 hi0 lo1 hi1 n2 n3 W ⟨wf_I64 w0a, wf_I64 w0b⟩ ⟨wf_I64 w1a, wf_I64 w1b⟩ w2 w3 hdoor).mono fun e W' ⟨he, hu⟩ => ?_
  subst he
  exact ⟨_, rfl, law_post Tryd.laidOut rfl rfl Tryd.underlying4 (fun t ht => by simp [Tryd.params6] at ht; (try rcases ht with rfl | rfl); all_goals (first | (subst ht; exact ⟨by kernel_rfl, of_decide_eq_true (by kernel_rfl)⟩) | exact ⟨by kernel_rfl, of_decide_eq_true (by kernel_rfl)⟩)) hW' rfl rfl rfl hu⟩
theorem spanHas_k1 : (Rows.spanHasRow.inPlace == Tryd.pinned.checked.prog.inPlace 6) = true := by kernel_rfl
theorem spanHas_k2 : (Rows.spanHasRow.unfollowed == Tryd.pinned.checked.prog.unfollowed 6) = true := by kernel_rfl
theorem spanHas_k3 : (Rows.spanHasRow.recurses == Tryd.pinned.checked.prog.recurses 6) = true := by kernel_rfl
theorem spanHas_k4 : (Rows.spanHasRow.named == Tryd.pinned.checked.prog.varsNamed 6) = true := by kernel_rfl
theorem spanHas_facts : joinedFacts Tryd.pinned.checked.prog 6 Tryd.f6 Rows.spanHasSpec Rows.spanHasRow = true :=
  joined_of _ _ _ _ _ Tryd.g1 Tryd.g2 Tryd.g3 Tryd.g4 Tryd.g5 Tryd.g6 Tryd.g7 Tryd.g8 Tryd.g9 spanHas_k1 spanHas_k2 spanHas_k3 spanHas_k4 (by kernel_rfl)
theorem spanHas_bare : Rows.SpanHasSaid :=
  OpenClaim.holds_of_wide 6 Tryd.f6 rfl rfl rfl rfl rfl rfl rfl ⟨rfl, rfl, rfl, rfl, rfl⟩ rfl rfl rfl rfl rfl (by kernel_rfl) Tryd.func6 spanHas_facts
    (of_decide_eq_true (by kernel_rfl)) (by unfold Func.isWrapper; rw [if_neg (by decide +kernel)]; exact ⟨rfl, rfl⟩)
    (fun os started H enc _ => spanHas_lifted os started H enc)
theorem spanHas_holds : Rows.SpanHasCardSaid :=
  Claim7.holds_tied_plain_at .later [] [.handle] true (true, "4f0e6ec2999e8407fc3f8e47fa2bca43f09fb7e21995caceb48bce91139f8bbd") true spanHas_bare (fun _ h => by cases h) (by kernel_rfl) (fun _ h => by cases h) spanHas_row_tie rfl ⟨rfl, rfl⟩ door_main rfl
    (fun f fn hf hfn => by
      obtain rfl : f = 6 := Option.some.inj ((show Tryd.prog.funcNamed "spanmeadow/spanlaw1.SpanHas" = some 6 by kernel_rfl).symm.trans hf) |>.symm
      obtain rfl : fn = Tryd.f6 := (Option.some.inj (Tryd.func6.symm.trans hfn)).symm
      exact ⟨door_looks.symm, fun j t ht => by
        rw [Tryd.params6] at ht
        have hm : t ∈ [29, 3] := by
          have := Array.mem_of_getElem? ht
          simpa using this
        simp only [List.mem_cons, List.not_mem_nil, or_false] at hm
        rcases hm with rfl | rfl
        · exact (show Tryd.prog.wantsStandIn 29 = false by kernel_rfl)
        · exact (show Tryd.prog.wantsStandIn 3 = false by kernel_rfl)⟩)
    (by kernel_rfl)
#print axioms spanHas_holds
end Go.Proofs.YthoeflkgbimipaaDoor
