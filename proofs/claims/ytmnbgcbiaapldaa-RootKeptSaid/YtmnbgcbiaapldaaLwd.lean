/- RootKept: where it is nought is in a piece that was found; all pieces are in the span, small, and in order; where one is sure to be one is found; where it may not be it is nowhere nought. No condition. -/
import Derived.Test.YtmnbgcbiaapldaaRootb
import Derived.Test.YtmnbgcbiaapldaaRefb
import Derived.Test.YtmnbgcbiaapldaaLits
import Derived.Test.YtmnbgcbiaapldaaRowb
import Derived.Test.YtmnbgcbiaapldaaFacts

set_option linter.unusedVariables false
set_option linter.unusedSimpArgs false
namespace Go.Proofs.Ytmnbgcbiaapldaa
open Go.ChangeShapes Go.WideShapes Go.ChangeAt Go.RowKit Go.Joins Go.Deep

theorem fact_find : findF [-2000, 1000] ⟨0, 8000⟩ 1000 = .ok [⟨1000, 2000⟩, ⟨2000, 3000⟩] := by rfl
theorem may_law {p : List Int} {x : Sp} {n : Int} {v : Bool} (h : mayF p x = .ok v) (hs : smallB p n = true) (h1 : x.lo ≤ n) (h2 : n ≤ x.hi) (h0 : exP n p = 0) : v = true := by
  unfold mayF at h
  split at h
  · cases h
  · rename_i s hs2
    injection h with h
    rw [← h]
    exact zero_iff (by decide) (over_at (smallB_true hs).1 (smallB_true hs).2.1 (orErr_parts hs2).2 ⟨h1, h2⟩) h0
/-- What find has found. -/
theorem kept_law {p : List Int} {x : Sp} {least : Int} {l : List Sp} {may : Bool} (hm : mayF p x = .ok may) (hf : findF p x least = .ok l) :
    l.length ≤ 32 ∧ Rt x ∧ (∀ k, k < l.length → x.lo ≤ (l[k]?.getD ⟨0, 0⟩).lo ∧ (l[k]?.getD ⟨0, 0⟩).lo ≤ (l[k]?.getD ⟨0, 0⟩).hi ∧ (l[k]?.getD ⟨0, 0⟩).hi ≤ x.hi ∧ (l[k]?.getD ⟨0, 0⟩).hi - (l[k]?.getD ⟨0, 0⟩).lo ≤ least) ∧
    (∀ k, k + 1 < l.length → (l[k]?.getD ⟨0, 0⟩).hi ≤ (l[k + 1]?.getD ⟨0, 0⟩).lo) ∧ (∀ n, x.lo ≤ n → n ≤ x.hi → exP n p = 0 → ∃ s ∈ l, s.lo ≤ n ∧ n ≤ s.hi) ∧ (sureF p x = .ok true → l ≠ []) ∧ (may = false → l = []) := by
  unfold findF at hf
  obtain ⟨k1, k2⟩ := orErr_parts hf
  obtain ⟨h0, h5, -, hx⟩ := pboth_none k1
  split at k2
  · cases k2
  · obtain ⟨l', e, hc, hr, ht, hlen⟩ := find_law h0 h5 _ x [] l hx.2.2 k2
    rw [List.nil_append] at e
    subst e
    refine ⟨hlen (by simp), hx, fun k hk => ?_, hc.next, hr, fun hs => ht ?_, fun hmf => ?_⟩
    · have := hc.mem (l[k]?.getD ⟨0, 0⟩) (by rw [List.getElem?_eq_getElem hk]; exact List.getElem_mem hk)
      exact this
    · unfold sureF at hs
      split at hs
      · cases hs
      · split at hs
        · cases hs
        · split at hs
          · cases hs
          · rename_i a ha
            split at hs
            · cases hs
            · rename_i b hb
              injection hs with hs
              simp at hs
              have ia := nested_at (n := x.lo) h5 ha ⟨Int.le_refl _, Int.le_refl _⟩
              have ib := nested_at (n := x.hi) h5 hb ⟨Int.le_refl _, Int.le_refl _⟩
              unfold In at ia ib
              unfold Turns
              omega
    · unfold mayF at hm
      split at hm
      · cases hm
      · rename_i s hs
        injection hm with hm
        rw [hmf] at hm
        have ho := (orErr_parts hs).2
        have := findG_none (least := least) (f := (x.hi - x.lo).toNat) (out := []) ho hm
        rw [k2] at this
        injection this
def inB (l : List Sp) (n : Int) : Bool := l.any fun s => decide (s.lo ≤ n) && decide (n ≤ s.hi)
theorem inB_take {l : List Sp} {k : Nat} {n : Int} (h : k < l.length) : inB (l.take (k + 1)) n = (inB (l.take k) n || (decide ((l[k]?.getD ⟨0, 0⟩).lo ≤ n) && decide (n ≤ (l[k]?.getD ⟨0, 0⟩).hi))) := by
  unfold inB
  rw [List.take_succ_eq_append_getElem h, List.any_append, List.getElem?_eq_getElem h]
  simp
theorem inB_of {l : List Sp} {n : Int} (h : ∃ s ∈ l, s.lo ≤ n ∧ n ≤ s.hi) : inB l n = true := by
  obtain ⟨s, hs, h1, h2⟩ := h
  exact List.any_eq_true.2 ⟨s, hs, by simp [h1, h2]⟩
theorem wrap_mid3 {n : Int} (h1 : -9000000000000000000 ≤ n) (h2 : n ≤ 9000000000000000000) : IntKind.i64.wrap n = n := by
  show (if (true && decide (n % 18446744073709551616 ≥ 9223372036854775808)) = true then n % 18446744073709551616 - 18446744073709551616 else n % 18446744073709551616) = n
  by_cases h : n % 18446744073709551616 ≥ 9223372036854775808
  · rw [if_pos (by simpa using h)]; omega
  · rw [if_neg (by simpa using h)]; omega
theorem slE_two {w : World} {s t : Sp} {v : Value} (h : slE w (.ok [s, t]) v) : ∃ b o c, v = .tuple #[.slice (some ⟨b, o, none⟩) 2 c, .nilIface] ∧ b < w.heap.size ∧ w.cell? ⟨b, o, none⟩ = some (.int .i64 s.lo) ∧ w.cell? ⟨b, o + 1, none⟩ = some (.int .i64 s.hi) ∧ 2 ≤ c := by
  obtain ⟨A, c, rfl, hr, hc⟩ := slE_ok h
  obtain ⟨b, o, rfl, hb, k⟩ := hr (by simp)
  obtain ⟨k1, k2⟩ := k 0 (by simp)
  exact ⟨b, o, c, rfl, hb, k1, k2, hc⟩
set_option maxRecDepth 100000 in
set_option maxHeartbeats 8000000 in
theorem rk_bad (A : Option Addr) (p : List Int) (c : Nat) (lo hi least n : Int) (w : World) (hr : RdI w A p) (hcap : p.length ≤ c) (hmax : c ≤ 9223372036854775807) {e : Nat} (hm : mayF p ⟨lo, hi⟩ = .error e) :
    Calls Try.prog 26 #[.slice A p.length c, .agg #[.int .i64 lo, .int .i64 hi], .int .i64 least, .int .i64 n] w (LawEnd w) := by
  have Hr := hid hr; have Hcap := hid hcap; have Hmax := hid (show p.length ≤ 9223372036854775807 by omega)
  clear hr hmax hcap
  have HF := hid (fun A W (hr : RdI W A [-2000, 1000]) => Find_any A [-2000, 1000] 2 0 8000 1000 W (by simp) hr)
  have HM := hid hm; clear hm
  go_enter Try.func26, Try.ntmps26
  go_wp2_with (first
                        | ((go_at_call 82; (with_reducible refine (May_any _ _ _ _ _ _ Hcap.out (Hr.out.up (by (repeat (first | (with_reducible exact Up.refl _) | (with_reducible assumption) | (with_reducible refine Up.alloc ?_ _) | (with_reducible refine Up.drew ?_) | ((with_reducible refine Up.set ?_ ?_ _); rotate_left; focus (first | omega | (simp; done) | (simp; omega))) | (with_reducible refine Up.drewN ?_ _) | (with_reducible refine Up.call ?_ (by with_reducible assumption))))))).mono ?_); rintro e w2 ⟨x2, hx2, rfl, hb2⟩ <;> (rw [HM.out] at hx2; subst hx2)) <;> (have hle := Up.le hb2; (try simp only [World.size_alloc, World.size_setCell, World.size_drew, World.heap_drewN] at hle); (try (have _ : w.heap.size < w2.heap.size := (by omega); (try (apply fk hb2 (w.heap.size); (focus (go_simp; rfl)); (focus (intro o; go_simp)); intro z; (try clear f_0); have f_0 := z; clear z)); (try (apply ck hb2 (w.heap.size) 0; (focus (go_simp; rfl)); intro z; (try clear c_0_0); have c_0_0 := z; clear z; (try (apply ck hb2 (w.heap.size) 1; (focus (go_simp; rfl)); intro z; (try clear c_0_1); have c_0_1 := z; clear z)))); (try (have _ : w.heap.size + 1 < w2.heap.size := (by omega); (try (apply fk hb2 (w.heap.size + 1); (focus (go_simp; rfl)); (focus (intro o; go_simp)); intro z; (try clear f_1); have f_1 := z; clear z)); (try (apply ck hb2 (w.heap.size + 1) 0; (focus (go_simp; rfl)); intro z; (try clear c_1_0); have c_1_0 := z; clear z; (try (apply ck hb2 (w.heap.size + 1) 1; (focus (go_simp; rfl)); intro z; (try clear c_1_1); have c_1_1 := z; clear z)))))))); (try (have _ : w1.heap.size < w2.heap.size := (by omega); (try (apply fk hb2 (w1.heap.size); (focus (go_simp; rfl)); (focus (intro o; go_simp)); intro z; (try clear f1_0); have f1_0 := z; clear z)); (try (apply ck hb2 (w1.heap.size) 0; (focus (go_simp; rfl)); intro z; (try clear c1_0_0); have c1_0_0 := z; clear z; (try (apply ck hb2 (w1.heap.size) 1; (focus (go_simp; rfl)); intro z; (try clear c1_0_1); have c1_0_1 := z; clear z)))); (try (have _ : w1.heap.size + 1 < w2.heap.size := (by omega); (try (apply fk hb2 (w1.heap.size + 1); (focus (go_simp; rfl)); (focus (intro o; go_simp)); intro z; (try clear f1_1); have f1_1 := z; clear z)); (try (apply ck hb2 (w1.heap.size + 1) 0; (focus (go_simp; rfl)); intro z; (try clear c1_1_0); have c1_1_0 := z; clear z; (try (apply ck hb2 (w1.heap.size + 1) 1; (focus (go_simp; rfl)); intro z; (try clear c1_1_1); have c1_1_1 := z; clear z)))))))); clear hle; (try (apply old_keep (w0 := w) (w := w2); (focus ((repeat (first | (with_reducible exact Up.refl _) | (with_reducible assumption) | (with_reducible refine Up.alloc ?_ _) | (with_reducible refine Up.drew ?_) | ((with_reducible refine Up.set ?_ ?_ _); rotate_left; focus (first | omega | (simp; done) | (simp; omega))) | (with_reducible refine Up.drewN ?_ _) | (with_reducible refine Up.call ?_ (by with_reducible assumption)))))); intro y z; (try clear hUp); (try clear hOld); have hUp := y; have hOld := z; clear y z))))
                        | ((go_at_call 81; (refine (HF.out _ _ (rdi2 (by go_simp) (by go_simp))).mono ?_); rintro e w1 ⟨x1, v1, hx1, rfl, hv1, hb1⟩ <;> (rw [fact_find] at hx1; subst hx1; obtain ⟨g1, o1, c1, rfl, lg1, cg0, cg1, hc1⟩ := slE_two hv1; clear hv1)) <;> (have hle := Up.le hb1; (try simp only [World.size_alloc, World.size_setCell, World.size_drew, World.heap_drewN] at hle); (try (have _ : w.heap.size < w1.heap.size := (by omega); (try (apply fk hb1 (w.heap.size); (focus (go_simp; rfl)); (focus (intro o; go_simp)); intro z; (try clear f_0); have f_0 := z; clear z)); (try (apply ck hb1 (w.heap.size) 0; (focus (go_simp; rfl)); intro z; (try clear c_0_0); have c_0_0 := z; clear z; (try (apply ck hb1 (w.heap.size) 1; (focus (go_simp; rfl)); intro z; (try clear c_0_1); have c_0_1 := z; clear z)))); (try (have _ : w.heap.size + 1 < w1.heap.size := (by omega); (try (apply fk hb1 (w.heap.size + 1); (focus (go_simp; rfl)); (focus (intro o; go_simp)); intro z; (try clear f_1); have f_1 := z; clear z)); (try (apply ck hb1 (w.heap.size + 1) 0; (focus (go_simp; rfl)); intro z; (try clear c_1_0); have c_1_0 := z; clear z; (try (apply ck hb1 (w.heap.size + 1) 1; (focus (go_simp; rfl)); intro z; (try clear c_1_1); have c_1_1 := z; clear z)))))))); clear hle; (try (apply old_keep (w0 := w) (w := w1); (focus ((repeat (first | (with_reducible exact Up.refl _) | (with_reducible assumption) | (with_reducible refine Up.alloc ?_ _) | (with_reducible refine Up.drew ?_) | ((with_reducible refine Up.set ?_ ?_ _); rotate_left; focus (first | omega | (simp; done) | (simp; omega))) | (with_reducible refine Up.drewN ?_ _) | (with_reducible refine Up.call ?_ (by with_reducible assumption)))))); intro y z; (try clear hUp); (try clear hOld); have hUp := y; have hOld := z; clear y z)))))
  go_ret
  refine LawEnd.mk rfl ?_
  (repeat (first | (with_reducible exact Up.refl _) | (with_reducible assumption) | (with_reducible refine Up.alloc ?_ _) | (with_reducible refine Up.drew ?_) | ((with_reducible refine Up.set ?_ ?_ _); rotate_left; focus (first | omega | (simp; done) | (simp; omega))) | (with_reducible refine Up.drewN ?_ _) | (with_reducible refine Up.call ?_ (by with_reducible assumption))))
set_option maxRecDepth 100000 in
set_option maxHeartbeats 8000000 in
theorem rk_err (A : Option Addr) (p : List Int) (c : Nat) (lo hi least n : Int) (w : World) (hr : RdI w A p) (hcap : p.length ≤ c) (hmax : c ≤ 9223372036854775807) {may : Bool} {e : Nat} (hm : mayF p ⟨lo, hi⟩ = .ok may) (hf : findF p ⟨lo, hi⟩ least = .error e) :
    Calls Try.prog 26 #[.slice A p.length c, .agg #[.int .i64 lo, .int .i64 hi], .int .i64 least, .int .i64 n] w (LawEnd w) := by
  have Hr := hid hr; have Hcap := hid hcap; have Hmax := hid (show p.length ≤ 9223372036854775807 by omega)
  clear hr hmax hcap
  have HF := hid (fun A W (hr : RdI W A [-2000, 1000]) => Find_any A [-2000, 1000] 2 0 8000 1000 W (by simp) hr)
  have hno : ∃ nought : Bool, (Hid (smallB p n = false) ∧ nought = false) ∨ (Hid (smallB p n = true) ∧ decide (lo ≤ n) = false ∧ nought = false) ∨ (Hid (smallB p n = true) ∧ decide (lo ≤ n) = true ∧ decide (n ≤ hi) = false ∧ nought = false) ∨
      (Hid (smallB p n = true) ∧ decide (lo ≤ n) = true ∧ decide (n ≤ hi) = true ∧ (exP n p == 0) = false ∧ nought = false) ∨ (Hid (smallB p n = true) ∧ decide (lo ≤ n) = true ∧ decide (n ≤ hi) = true ∧ (exP n p == 0) = true ∧ may = true ∧ nought = true) := by
    cases h1 : smallB p n with
    | false => exact ⟨false, .inl ⟨rfl, rfl⟩⟩
    | true =>
      by_cases h2 : lo ≤ n
      · by_cases h3 : n ≤ hi
        · by_cases h4 : exP n p = 0
          · exact ⟨true, .inr (.inr (.inr (.inr ⟨rfl, decide_eq_true h2, decide_eq_true h3, beq_iff_eq.2 h4, may_law hm h1 h2 h3 h4, rfl⟩)))⟩
          · exact ⟨false, .inr (.inr (.inr (.inl ⟨rfl, decide_eq_true h2, decide_eq_true h3, beq_false_of_ne h4, rfl⟩)))⟩
        · exact ⟨false, .inr (.inr (.inl ⟨rfl, decide_eq_true h2, decide_eq_false h3, rfl⟩))⟩
      · exact ⟨false, .inr (.inl ⟨rfl, decide_eq_false h2, rfl⟩)⟩
  obtain ⟨nought, hno⟩ := hno
  have Hnt := hid (show nought = true → lo ≤ n ∧ n ≤ hi ∧ exP n p = 0 from by
    rcases hno with ⟨-, e⟩ | ⟨-, -, e⟩ | ⟨-, -, -, e⟩ | ⟨-, -, -, -, e⟩ | ⟨-, h1, h2, h3, -, e⟩
    · intro h; rw [e] at h; cases h
    · intro h; rw [e] at h; cases h
    · intro h; rw [e] at h; cases h
    · intro h; rw [e] at h; cases h
    · intro _; exact ⟨of_decide_eq_true h1, of_decide_eq_true h2, beq_iff_eq.1 h3⟩)
  have HM := hid hm
  have Hen := hid (show ∃ en, exP n p = en from ⟨_, rfl⟩)
  obtain ⟨en, hen⟩ := Hen.out
  have HFi := hid hf; have HEn := hid hen
  rw [hen] at hno
  clear hm hf hen Hen
  rcases hno with ⟨H1, rfl⟩ | ⟨H1, d1, rfl⟩ | ⟨H1, d1, d2, rfl⟩ | ⟨H1, d1, d2, d3, rfl⟩ | ⟨H1, d1, d2, d3, rfl, rfl⟩
  all_goals
    (try cases may)
  all_goals
    go_enter Try.func26, Try.ntmps26
    go_wp2_with (first
                        | ((go_at_call 82; (with_reducible refine (May_any _ _ _ _ _ _ Hcap.out (Hr.out.up (by (repeat (first | (with_reducible exact Up.refl _) | (with_reducible assumption) | (with_reducible refine Up.alloc ?_ _) | (with_reducible refine Up.drew ?_) | ((with_reducible refine Up.set ?_ ?_ _); rotate_left; focus (first | omega | (simp; done) | (simp; omega))) | (with_reducible refine Up.drewN ?_ _) | (with_reducible refine Up.call ?_ (by with_reducible assumption))))))).mono ?_); rintro e w2 ⟨x2, hx2, rfl, hb2⟩ <;> (rw [HM.out] at hx2; subst hx2)) <;> (have hle := Up.le hb2; (try simp only [World.size_alloc, World.size_setCell, World.size_drew, World.heap_drewN] at hle); (try (have _ : w.heap.size < w2.heap.size := (by omega); (try (apply fk hb2 (w.heap.size); (focus (go_simp; rfl)); (focus (intro o; go_simp)); intro z; (try clear f_0); have f_0 := z; clear z)); (try (apply ck hb2 (w.heap.size) 0; (focus (go_simp; rfl)); intro z; (try clear c_0_0); have c_0_0 := z; clear z; (try (apply ck hb2 (w.heap.size) 1; (focus (go_simp; rfl)); intro z; (try clear c_0_1); have c_0_1 := z; clear z)))); (try (have _ : w.heap.size + 1 < w2.heap.size := (by omega); (try (apply fk hb2 (w.heap.size + 1); (focus (go_simp; rfl)); (focus (intro o; go_simp)); intro z; (try clear f_1); have f_1 := z; clear z)); (try (apply ck hb2 (w.heap.size + 1) 0; (focus (go_simp; rfl)); intro z; (try clear c_1_0); have c_1_0 := z; clear z; (try (apply ck hb2 (w.heap.size + 1) 1; (focus (go_simp; rfl)); intro z; (try clear c_1_1); have c_1_1 := z; clear z)))))))); (try (have _ : w1.heap.size < w2.heap.size := (by omega); (try (apply fk hb2 (w1.heap.size); (focus (go_simp; rfl)); (focus (intro o; go_simp)); intro z; (try clear f1_0); have f1_0 := z; clear z)); (try (apply ck hb2 (w1.heap.size) 0; (focus (go_simp; rfl)); intro z; (try clear c1_0_0); have c1_0_0 := z; clear z; (try (apply ck hb2 (w1.heap.size) 1; (focus (go_simp; rfl)); intro z; (try clear c1_0_1); have c1_0_1 := z; clear z)))); (try (have _ : w1.heap.size + 1 < w2.heap.size := (by omega); (try (apply fk hb2 (w1.heap.size + 1); (focus (go_simp; rfl)); (focus (intro o; go_simp)); intro z; (try clear f1_1); have f1_1 := z; clear z)); (try (apply ck hb2 (w1.heap.size + 1) 0; (focus (go_simp; rfl)); intro z; (try clear c1_1_0); have c1_1_0 := z; clear z; (try (apply ck hb2 (w1.heap.size + 1) 1; (focus (go_simp; rfl)); intro z; (try clear c1_1_1); have c1_1_1 := z; clear z)))))))); clear hle; (try (apply old_keep (w0 := w) (w := w2); (focus ((repeat (first | (with_reducible exact Up.refl _) | (with_reducible assumption) | (with_reducible refine Up.alloc ?_ _) | (with_reducible refine Up.drew ?_) | ((with_reducible refine Up.set ?_ ?_ _); rotate_left; focus (first | omega | (simp; done) | (simp; omega))) | (with_reducible refine Up.drewN ?_ _) | (with_reducible refine Up.call ?_ (by with_reducible assumption)))))); intro y z; (try clear hUp); (try clear hOld); have hUp := y; have hOld := z; clear y z))))
                        | ((go_at_call 56; (with_reducible refine (rsmall_any _ _ _ _ _ (Hr.out.up (by (repeat (first | (with_reducible exact Up.refl _) | (with_reducible assumption) | (with_reducible refine Up.alloc ?_ _) | (with_reducible refine Up.drew ?_) | ((with_reducible refine Up.set ?_ ?_ _); rotate_left; focus (first | omega | (simp; done) | (simp; omega))) | (with_reducible refine Up.drewN ?_ _) | (with_reducible refine Up.call ?_ (by with_reducible assumption)))))) Hmax.out).mono ?_); rintro e w3 ⟨x3, hx3, rfl, hb3⟩ <;> (rw [H1.out] at hx3; subst hx3)) <;> (have hle := Up.le hb3; (try simp only [World.size_alloc, World.size_setCell, World.size_drew, World.heap_drewN] at hle); (try (have _ : w.heap.size < w3.heap.size := (by omega); (try (apply fk hb3 (w.heap.size); (focus (go_simp; rfl)); (focus (intro o; go_simp)); intro z; (try clear f_0); have f_0 := z; clear z)); (try (apply ck hb3 (w.heap.size) 0; (focus (go_simp; rfl)); intro z; (try clear c_0_0); have c_0_0 := z; clear z; (try (apply ck hb3 (w.heap.size) 1; (focus (go_simp; rfl)); intro z; (try clear c_0_1); have c_0_1 := z; clear z)))); (try (have _ : w.heap.size + 1 < w3.heap.size := (by omega); (try (apply fk hb3 (w.heap.size + 1); (focus (go_simp; rfl)); (focus (intro o; go_simp)); intro z; (try clear f_1); have f_1 := z; clear z)); (try (apply ck hb3 (w.heap.size + 1) 0; (focus (go_simp; rfl)); intro z; (try clear c_1_0); have c_1_0 := z; clear z; (try (apply ck hb3 (w.heap.size + 1) 1; (focus (go_simp; rfl)); intro z; (try clear c_1_1); have c_1_1 := z; clear z)))))))); (try (have _ : w1.heap.size < w3.heap.size := (by omega); (try (apply fk hb3 (w1.heap.size); (focus (go_simp; rfl)); (focus (intro o; go_simp)); intro z; (try clear f1_0); have f1_0 := z; clear z)); (try (apply ck hb3 (w1.heap.size) 0; (focus (go_simp; rfl)); intro z; (try clear c1_0_0); have c1_0_0 := z; clear z; (try (apply ck hb3 (w1.heap.size) 1; (focus (go_simp; rfl)); intro z; (try clear c1_0_1); have c1_0_1 := z; clear z)))); (try (have _ : w1.heap.size + 1 < w3.heap.size := (by omega); (try (apply fk hb3 (w1.heap.size + 1); (focus (go_simp; rfl)); (focus (intro o; go_simp)); intro z; (try clear f1_1); have f1_1 := z; clear z)); (try (apply ck hb3 (w1.heap.size + 1) 0; (focus (go_simp; rfl)); intro z; (try clear c1_1_0); have c1_1_0 := z; clear z; (try (apply ck hb3 (w1.heap.size + 1) 1; (focus (go_simp; rfl)); intro z; (try clear c1_1_1); have c1_1_1 := z; clear z)))))))); (try (have _ : w2.heap.size < w3.heap.size := (by omega); (try (apply fk hb3 (w2.heap.size); (focus (go_simp; rfl)); (focus (intro o; go_simp)); intro z; (try clear f2_0); have f2_0 := z; clear z)); (try (apply ck hb3 (w2.heap.size) 0; (focus (go_simp; rfl)); intro z; (try clear c2_0_0); have c2_0_0 := z; clear z; (try (apply ck hb3 (w2.heap.size) 1; (focus (go_simp; rfl)); intro z; (try clear c2_0_1); have c2_0_1 := z; clear z)))); (try (have _ : w2.heap.size + 1 < w3.heap.size := (by omega); (try (apply fk hb3 (w2.heap.size + 1); (focus (go_simp; rfl)); (focus (intro o; go_simp)); intro z; (try clear f2_1); have f2_1 := z; clear z)); (try (apply ck hb3 (w2.heap.size + 1) 0; (focus (go_simp; rfl)); intro z; (try clear c2_1_0); have c2_1_0 := z; clear z; (try (apply ck hb3 (w2.heap.size + 1) 1; (focus (go_simp; rfl)); intro z; (try clear c2_1_1); have c2_1_1 := z; clear z)))))))); clear hle; (try (apply old_keep (w0 := w) (w := w3); (focus ((repeat (first | (with_reducible exact Up.refl _) | (with_reducible assumption) | (with_reducible refine Up.alloc ?_ _) | (with_reducible refine Up.drew ?_) | ((with_reducible refine Up.set ?_ ?_ _); rotate_left; focus (first | omega | (simp; done) | (simp; omega))) | (with_reducible refine Up.drewN ?_ _) | (with_reducible refine Up.call ?_ (by with_reducible assumption)))))); intro y z; (try clear hUp); (try clear hOld); have hUp := y; have hOld := z; clear y z))))
                        | ((go_at_call 69; (with_reducible refine (rexact_any _ _ _ _ _ (Hr.out.up (by (repeat (first | (with_reducible exact Up.refl _) | (with_reducible assumption) | (with_reducible refine Up.alloc ?_ _) | (with_reducible refine Up.drew ?_) | ((with_reducible refine Up.set ?_ ?_ _); rotate_left; focus (first | omega | (simp; done) | (simp; omega))) | (with_reducible refine Up.drewN ?_ _) | (with_reducible refine Up.call ?_ (by with_reducible assumption)))))) H1.out).mono ?_); rintro e w4 ⟨x4, hx4, rfl, hb4⟩ <;> (rw [HEn.out] at hx4; subst hx4)) <;> (have hle := Up.le hb4; (try simp only [World.size_alloc, World.size_setCell, World.size_drew, World.heap_drewN] at hle); (try (have _ : w.heap.size < w4.heap.size := (by omega); (try (apply fk hb4 (w.heap.size); (focus (go_simp; rfl)); (focus (intro o; go_simp)); intro z; (try clear f_0); have f_0 := z; clear z)); (try (apply ck hb4 (w.heap.size) 0; (focus (go_simp; rfl)); intro z; (try clear c_0_0); have c_0_0 := z; clear z; (try (apply ck hb4 (w.heap.size) 1; (focus (go_simp; rfl)); intro z; (try clear c_0_1); have c_0_1 := z; clear z)))); (try (have _ : w.heap.size + 1 < w4.heap.size := (by omega); (try (apply fk hb4 (w.heap.size + 1); (focus (go_simp; rfl)); (focus (intro o; go_simp)); intro z; (try clear f_1); have f_1 := z; clear z)); (try (apply ck hb4 (w.heap.size + 1) 0; (focus (go_simp; rfl)); intro z; (try clear c_1_0); have c_1_0 := z; clear z; (try (apply ck hb4 (w.heap.size + 1) 1; (focus (go_simp; rfl)); intro z; (try clear c_1_1); have c_1_1 := z; clear z)))))))); (try (have _ : w1.heap.size < w4.heap.size := (by omega); (try (apply fk hb4 (w1.heap.size); (focus (go_simp; rfl)); (focus (intro o; go_simp)); intro z; (try clear f1_0); have f1_0 := z; clear z)); (try (apply ck hb4 (w1.heap.size) 0; (focus (go_simp; rfl)); intro z; (try clear c1_0_0); have c1_0_0 := z; clear z; (try (apply ck hb4 (w1.heap.size) 1; (focus (go_simp; rfl)); intro z; (try clear c1_0_1); have c1_0_1 := z; clear z)))); (try (have _ : w1.heap.size + 1 < w4.heap.size := (by omega); (try (apply fk hb4 (w1.heap.size + 1); (focus (go_simp; rfl)); (focus (intro o; go_simp)); intro z; (try clear f1_1); have f1_1 := z; clear z)); (try (apply ck hb4 (w1.heap.size + 1) 0; (focus (go_simp; rfl)); intro z; (try clear c1_1_0); have c1_1_0 := z; clear z; (try (apply ck hb4 (w1.heap.size + 1) 1; (focus (go_simp; rfl)); intro z; (try clear c1_1_1); have c1_1_1 := z; clear z)))))))); (try (have _ : w2.heap.size < w4.heap.size := (by omega); (try (apply fk hb4 (w2.heap.size); (focus (go_simp; rfl)); (focus (intro o; go_simp)); intro z; (try clear f2_0); have f2_0 := z; clear z)); (try (apply ck hb4 (w2.heap.size) 0; (focus (go_simp; rfl)); intro z; (try clear c2_0_0); have c2_0_0 := z; clear z; (try (apply ck hb4 (w2.heap.size) 1; (focus (go_simp; rfl)); intro z; (try clear c2_0_1); have c2_0_1 := z; clear z)))); (try (have _ : w2.heap.size + 1 < w4.heap.size := (by omega); (try (apply fk hb4 (w2.heap.size + 1); (focus (go_simp; rfl)); (focus (intro o; go_simp)); intro z; (try clear f2_1); have f2_1 := z; clear z)); (try (apply ck hb4 (w2.heap.size + 1) 0; (focus (go_simp; rfl)); intro z; (try clear c2_1_0); have c2_1_0 := z; clear z; (try (apply ck hb4 (w2.heap.size + 1) 1; (focus (go_simp; rfl)); intro z; (try clear c2_1_1); have c2_1_1 := z; clear z)))))))); (try (have _ : w3.heap.size < w4.heap.size := (by omega); (try (apply fk hb4 (w3.heap.size); (focus (go_simp; rfl)); (focus (intro o; go_simp)); intro z; (try clear f3_0); have f3_0 := z; clear z)); (try (apply ck hb4 (w3.heap.size) 0; (focus (go_simp; rfl)); intro z; (try clear c3_0_0); have c3_0_0 := z; clear z; (try (apply ck hb4 (w3.heap.size) 1; (focus (go_simp; rfl)); intro z; (try clear c3_0_1); have c3_0_1 := z; clear z)))); (try (have _ : w3.heap.size + 1 < w4.heap.size := (by omega); (try (apply fk hb4 (w3.heap.size + 1); (focus (go_simp; rfl)); (focus (intro o; go_simp)); intro z; (try clear f3_1); have f3_1 := z; clear z)); (try (apply ck hb4 (w3.heap.size + 1) 0; (focus (go_simp; rfl)); intro z; (try clear c3_1_0); have c3_1_0 := z; clear z; (try (apply ck hb4 (w3.heap.size + 1) 1; (focus (go_simp; rfl)); intro z; (try clear c3_1_1); have c3_1_1 := z; clear z)))))))); clear hle; (try (apply old_keep (w0 := w) (w := w4); (focus ((repeat (first | (with_reducible exact Up.refl _) | (with_reducible assumption) | (with_reducible refine Up.alloc ?_ _) | (with_reducible refine Up.drew ?_) | ((with_reducible refine Up.set ?_ ?_ _); rotate_left; focus (first | omega | (simp; done) | (simp; omega))) | (with_reducible refine Up.drewN ?_ _) | (with_reducible refine Up.call ?_ (by with_reducible assumption)))))); intro y z; (try clear hUp); (try clear hOld); have hUp := y; have hOld := z; clear y z))))
                        | ((go_at_call 81; have _n := hb2; clear _n; (with_reducible refine (Find_any _ p _ _ _ least _ Hcap.out (Hr.out.up (by (repeat (first | (with_reducible exact Up.refl _) | (with_reducible assumption) | (with_reducible refine Up.alloc ?_ _) | (with_reducible refine Up.drew ?_) | ((with_reducible refine Up.set ?_ ?_ _); rotate_left; focus (first | omega | (simp; done) | (simp; omega))) | (with_reducible refine Up.drewN ?_ _) | (with_reducible refine Up.call ?_ (by with_reducible assumption))))))).mono ?_); rintro e w5 ⟨x5, v5, hx5, rfl, hv5, hb5⟩ <;> (rw [HFi.out] at hx5; subst hx5; obtain rfl := slE_error hv5; clear hv5)) <;> (have hle := Up.le hb5; (try simp only [World.size_alloc, World.size_setCell, World.size_drew, World.heap_drewN] at hle); (try (have _ : w.heap.size < w5.heap.size := (by omega); (try (apply fk hb5 (w.heap.size); (focus (go_simp; rfl)); (focus (intro o; go_simp)); intro z; (try clear f_0); have f_0 := z; clear z)); (try (apply ck hb5 (w.heap.size) 0; (focus (go_simp; rfl)); intro z; (try clear c_0_0); have c_0_0 := z; clear z; (try (apply ck hb5 (w.heap.size) 1; (focus (go_simp; rfl)); intro z; (try clear c_0_1); have c_0_1 := z; clear z)))); (try (have _ : w.heap.size + 1 < w5.heap.size := (by omega); (try (apply fk hb5 (w.heap.size + 1); (focus (go_simp; rfl)); (focus (intro o; go_simp)); intro z; (try clear f_1); have f_1 := z; clear z)); (try (apply ck hb5 (w.heap.size + 1) 0; (focus (go_simp; rfl)); intro z; (try clear c_1_0); have c_1_0 := z; clear z; (try (apply ck hb5 (w.heap.size + 1) 1; (focus (go_simp; rfl)); intro z; (try clear c_1_1); have c_1_1 := z; clear z)))))))); (try (have _ : w1.heap.size < w5.heap.size := (by omega); (try (apply fk hb5 (w1.heap.size); (focus (go_simp; rfl)); (focus (intro o; go_simp)); intro z; (try clear f1_0); have f1_0 := z; clear z)); (try (apply ck hb5 (w1.heap.size) 0; (focus (go_simp; rfl)); intro z; (try clear c1_0_0); have c1_0_0 := z; clear z; (try (apply ck hb5 (w1.heap.size) 1; (focus (go_simp; rfl)); intro z; (try clear c1_0_1); have c1_0_1 := z; clear z)))); (try (have _ : w1.heap.size + 1 < w5.heap.size := (by omega); (try (apply fk hb5 (w1.heap.size + 1); (focus (go_simp; rfl)); (focus (intro o; go_simp)); intro z; (try clear f1_1); have f1_1 := z; clear z)); (try (apply ck hb5 (w1.heap.size + 1) 0; (focus (go_simp; rfl)); intro z; (try clear c1_1_0); have c1_1_0 := z; clear z; (try (apply ck hb5 (w1.heap.size + 1) 1; (focus (go_simp; rfl)); intro z; (try clear c1_1_1); have c1_1_1 := z; clear z)))))))); (try (have _ : w2.heap.size < w5.heap.size := (by omega); (try (apply fk hb5 (w2.heap.size); (focus (go_simp; rfl)); (focus (intro o; go_simp)); intro z; (try clear f2_0); have f2_0 := z; clear z)); (try (apply ck hb5 (w2.heap.size) 0; (focus (go_simp; rfl)); intro z; (try clear c2_0_0); have c2_0_0 := z; clear z; (try (apply ck hb5 (w2.heap.size) 1; (focus (go_simp; rfl)); intro z; (try clear c2_0_1); have c2_0_1 := z; clear z)))); (try (have _ : w2.heap.size + 1 < w5.heap.size := (by omega); (try (apply fk hb5 (w2.heap.size + 1); (focus (go_simp; rfl)); (focus (intro o; go_simp)); intro z; (try clear f2_1); have f2_1 := z; clear z)); (try (apply ck hb5 (w2.heap.size + 1) 0; (focus (go_simp; rfl)); intro z; (try clear c2_1_0); have c2_1_0 := z; clear z; (try (apply ck hb5 (w2.heap.size + 1) 1; (focus (go_simp; rfl)); intro z; (try clear c2_1_1); have c2_1_1 := z; clear z)))))))); (try (have _ : w3.heap.size < w5.heap.size := (by omega); (try (apply fk hb5 (w3.heap.size); (focus (go_simp; rfl)); (focus (intro o; go_simp)); intro z; (try clear f3_0); have f3_0 := z; clear z)); (try (apply ck hb5 (w3.heap.size) 0; (focus (go_simp; rfl)); intro z; (try clear c3_0_0); have c3_0_0 := z; clear z; (try (apply ck hb5 (w3.heap.size) 1; (focus (go_simp; rfl)); intro z; (try clear c3_0_1); have c3_0_1 := z; clear z)))); (try (have _ : w3.heap.size + 1 < w5.heap.size := (by omega); (try (apply fk hb5 (w3.heap.size + 1); (focus (go_simp; rfl)); (focus (intro o; go_simp)); intro z; (try clear f3_1); have f3_1 := z; clear z)); (try (apply ck hb5 (w3.heap.size + 1) 0; (focus (go_simp; rfl)); intro z; (try clear c3_1_0); have c3_1_0 := z; clear z; (try (apply ck hb5 (w3.heap.size + 1) 1; (focus (go_simp; rfl)); intro z; (try clear c3_1_1); have c3_1_1 := z; clear z)))))))); (try (have _ : w4.heap.size < w5.heap.size := (by omega); (try (apply fk hb5 (w4.heap.size); (focus (go_simp; rfl)); (focus (intro o; go_simp)); intro z; (try clear f4_0); have f4_0 := z; clear z)); (try (apply ck hb5 (w4.heap.size) 0; (focus (go_simp; rfl)); intro z; (try clear c4_0_0); have c4_0_0 := z; clear z; (try (apply ck hb5 (w4.heap.size) 1; (focus (go_simp; rfl)); intro z; (try clear c4_0_1); have c4_0_1 := z; clear z)))); (try (have _ : w4.heap.size + 1 < w5.heap.size := (by omega); (try (apply fk hb5 (w4.heap.size + 1); (focus (go_simp; rfl)); (focus (intro o; go_simp)); intro z; (try clear f4_1); have f4_1 := z; clear z)); (try (apply ck hb5 (w4.heap.size + 1) 0; (focus (go_simp; rfl)); intro z; (try clear c4_1_0); have c4_1_0 := z; clear z; (try (apply ck hb5 (w4.heap.size + 1) 1; (focus (go_simp; rfl)); intro z; (try clear c4_1_1); have c4_1_1 := z; clear z)))))))); clear hle; (try (apply old_keep (w0 := w) (w := w5); (focus ((repeat (first | (with_reducible exact Up.refl _) | (with_reducible assumption) | (with_reducible refine Up.alloc ?_ _) | (with_reducible refine Up.drew ?_) | ((with_reducible refine Up.set ?_ ?_ _); rotate_left; focus (first | omega | (simp; done) | (simp; omega))) | (with_reducible refine Up.drewN ?_ _) | (with_reducible refine Up.call ?_ (by with_reducible assumption)))))); intro y z; (try clear hUp); (try clear hOld); have hUp := y; have hOld := z; clear y z))))
                        | ((go_at_call 81; (refine (HF.out _ _ (rdi2 (by go_simp) (by go_simp))).mono ?_); rintro e w1 ⟨x1, v1, hx1, rfl, hv1, hb1⟩ <;> (rw [fact_find] at hx1; subst hx1; obtain ⟨g1, o1, c1, rfl, lg1, cg0, cg1, hc1⟩ := slE_two hv1; clear hv1)) <;> (have hle := Up.le hb1; (try simp only [World.size_alloc, World.size_setCell, World.size_drew, World.heap_drewN] at hle); (try (have _ : w.heap.size < w1.heap.size := (by omega); (try (apply fk hb1 (w.heap.size); (focus (go_simp; rfl)); (focus (intro o; go_simp)); intro z; (try clear f_0); have f_0 := z; clear z)); (try (apply ck hb1 (w.heap.size) 0; (focus (go_simp; rfl)); intro z; (try clear c_0_0); have c_0_0 := z; clear z; (try (apply ck hb1 (w.heap.size) 1; (focus (go_simp; rfl)); intro z; (try clear c_0_1); have c_0_1 := z; clear z)))); (try (have _ : w.heap.size + 1 < w1.heap.size := (by omega); (try (apply fk hb1 (w.heap.size + 1); (focus (go_simp; rfl)); (focus (intro o; go_simp)); intro z; (try clear f_1); have f_1 := z; clear z)); (try (apply ck hb1 (w.heap.size + 1) 0; (focus (go_simp; rfl)); intro z; (try clear c_1_0); have c_1_0 := z; clear z; (try (apply ck hb1 (w.heap.size + 1) 1; (focus (go_simp; rfl)); intro z; (try clear c_1_1); have c_1_1 := z; clear z)))))))); clear hle; (try (apply old_keep (w0 := w) (w := w1); (focus ((repeat (first | (with_reducible exact Up.refl _) | (with_reducible assumption) | (with_reducible refine Up.alloc ?_ _) | (with_reducible refine Up.drew ?_) | ((with_reducible refine Up.set ?_ ?_ _); rotate_left; focus (first | omega | (simp; done) | (simp; omega))) | (with_reducible refine Up.drewN ?_ _) | (with_reducible refine Up.call ?_ (by with_reducible assumption)))))); intro y z; (try clear hUp); (try clear hOld); have hUp := y; have hOld := z; clear y z)))))
    go_ret
    refine LawEnd.mk rfl ?_
    (repeat (first | (with_reducible exact Up.refl _) | (with_reducible assumption) | (with_reducible refine Up.alloc ?_ _) | (with_reducible refine Up.drew ?_) | ((with_reducible refine Up.set ?_ ?_ _); rotate_left; focus (first | omega | (simp; done) | (simp; omega))) | (with_reducible refine Up.drewN ?_ _) | (with_reducible refine Up.call ?_ (by with_reducible assumption))))
set_option maxRecDepth 100000 in
set_option maxHeartbeats 8000000 in
theorem rk_ok (A : Option Addr) (p : List Int) (c : Nat) (lo hi least n : Int) (w : World) (hr : RdI w A p) (hcap : p.length ≤ c) (hmax : c ≤ 9223372036854775807) {may : Bool} {l : List Sp} (hm : mayF p ⟨lo, hi⟩ = .ok may) (hf : findF p ⟨lo, hi⟩ least = .ok l) :
    Calls Try.prog 26 #[.slice A p.length c, .agg #[.int .i64 lo, .int .i64 hi], .int .i64 least, .int .i64 n] w (LawEnd w) := by
  have Hr := hid hr; have Hcap := hid hcap; have Hmax := hid (show p.length ≤ 9223372036854775807 by omega)
  clear hr hmax hcap
  have HF := hid (fun A W (hr : RdI W A [-2000, 1000]) => Find_any A [-2000, 1000] 2 0 8000 1000 W (by simp) hr)
  have hno : ∃ nought : Bool, (Hid (smallB p n = false) ∧ nought = false) ∨ (Hid (smallB p n = true) ∧ decide (lo ≤ n) = false ∧ nought = false) ∨ (Hid (smallB p n = true) ∧ decide (lo ≤ n) = true ∧ decide (n ≤ hi) = false ∧ nought = false) ∨
      (Hid (smallB p n = true) ∧ decide (lo ≤ n) = true ∧ decide (n ≤ hi) = true ∧ (exP n p == 0) = false ∧ nought = false) ∨ (Hid (smallB p n = true) ∧ decide (lo ≤ n) = true ∧ decide (n ≤ hi) = true ∧ (exP n p == 0) = true ∧ may = true ∧ nought = true) := by
    cases h1 : smallB p n with
    | false => exact ⟨false, .inl ⟨rfl, rfl⟩⟩
    | true =>
      by_cases h2 : lo ≤ n
      · by_cases h3 : n ≤ hi
        · by_cases h4 : exP n p = 0
          · exact ⟨true, .inr (.inr (.inr (.inr ⟨rfl, decide_eq_true h2, decide_eq_true h3, beq_iff_eq.2 h4, may_law hm h1 h2 h3 h4, rfl⟩)))⟩
          · exact ⟨false, .inr (.inr (.inr (.inl ⟨rfl, decide_eq_true h2, decide_eq_true h3, beq_false_of_ne h4, rfl⟩)))⟩
        · exact ⟨false, .inr (.inr (.inl ⟨rfl, decide_eq_true h2, decide_eq_false h3, rfl⟩))⟩
      · exact ⟨false, .inr (.inl ⟨rfl, decide_eq_false h2, rfl⟩)⟩
  obtain ⟨nought, hno⟩ := hno
  have Hnt := hid (show nought = true → lo ≤ n ∧ n ≤ hi ∧ exP n p = 0 from by
    rcases hno with ⟨-, e⟩ | ⟨-, -, e⟩ | ⟨-, -, -, e⟩ | ⟨-, -, -, -, e⟩ | ⟨-, h1, h2, h3, -, e⟩
    · intro h; rw [e] at h; cases h
    · intro h; rw [e] at h; cases h
    · intro h; rw [e] at h; cases h
    · intro h; rw [e] at h; cases h
    · intro _; exact ⟨of_decide_eq_true h1, of_decide_eq_true h2, beq_iff_eq.1 h3⟩)
  have HM := hid hm
  have Hen := hid (show ∃ en, exP n p = en from ⟨_, rfl⟩)
  obtain ⟨en, hen⟩ := Hen.out
  obtain ⟨k32, kx, kp, kn, kr, ks, km⟩ := kept_law hm hf
  have hcomb : (nought = false ∧ may = false) ∨ (nought = false ∧ may = true) ∨ (nought = true ∧ may = true) := by
    rcases hno with ⟨-, e⟩ | ⟨-, -, e⟩ | ⟨-, -, -, e⟩ | ⟨-, -, -, -, e⟩ | ⟨-, -, -, -, e2, e⟩
    all_goals (subst e; cases may <;> simp at *)
  have HIn := hid (show nought = true → inB l n = true from fun h => inB_of (kr n (Hnt.out h).1 (Hnt.out h).2.1 (Hnt.out h).2.2))
  have Kp := hid kp; have Kn := hid kn; have Ks := hid ks; have Km := hid km; have Kc := hid hcomb; have K32 := hid k32
  have HFi := hid hf; have HEn := hid hen
  rw [hen] at hno
  have Hno := hid hno
  obtain ⟨⟨x1', x2'⟩, ⟨x3', x4'⟩, x5'⟩ := kx
  dsimp only at x1' x2' x3' x4' x5'
  clear hm hf hen Hen kp kn kr ks km hcomb k32 hno
  go_enter Try.func26, Try.ntmps26
  go_upto_region 8 with (first
    | ((go_at_call 82; (with_reducible refine (May_any _ _ _ _ _ _ Hcap.out (Hr.out.up (by (repeat (first | (with_reducible exact Up.refl _) | (with_reducible assumption) | (with_reducible refine Up.alloc ?_ _) | (with_reducible refine Up.drew ?_) | ((with_reducible refine Up.set ?_ ?_ _); rotate_left; focus (first | omega | (simp; done) | (simp; omega))) | (with_reducible refine Up.drewN ?_ _) | (with_reducible refine Up.call ?_ (by with_reducible assumption))))))).mono ?_); rintro e w2 ⟨x2, hx2, rfl, hb2⟩ <;> (rw [HM.out] at hx2; subst hx2)) <;> (have hle := Up.le hb2; (try simp only [World.size_alloc, World.size_setCell, World.size_drew, World.heap_drewN] at hle); (try (have _ : w.heap.size < w2.heap.size := (by omega); (try (apply fk hb2 (w.heap.size); (focus (go_simp; rfl)); (focus (intro o; go_simp)); intro z; (try clear f_0); have f_0 := z; clear z)); (try (apply ck hb2 (w.heap.size) 0; (focus (go_simp; rfl)); intro z; (try clear c_0_0); have c_0_0 := z; clear z; (try (apply ck hb2 (w.heap.size) 1; (focus (go_simp; rfl)); intro z; (try clear c_0_1); have c_0_1 := z; clear z)))); (try (have _ : w.heap.size + 1 < w2.heap.size := (by omega); (try (apply fk hb2 (w.heap.size + 1); (focus (go_simp; rfl)); (focus (intro o; go_simp)); intro z; (try clear f_1); have f_1 := z; clear z)); (try (apply ck hb2 (w.heap.size + 1) 0; (focus (go_simp; rfl)); intro z; (try clear c_1_0); have c_1_0 := z; clear z; (try (apply ck hb2 (w.heap.size + 1) 1; (focus (go_simp; rfl)); intro z; (try clear c_1_1); have c_1_1 := z; clear z)))))))); (try (have _ : w1.heap.size < w2.heap.size := (by omega); (try (apply fk hb2 (w1.heap.size); (focus (go_simp; rfl)); (focus (intro o; go_simp)); intro z; (try clear f1_0); have f1_0 := z; clear z)); (try (apply ck hb2 (w1.heap.size) 0; (focus (go_simp; rfl)); intro z; (try clear c1_0_0); have c1_0_0 := z; clear z; (try (apply ck hb2 (w1.heap.size) 1; (focus (go_simp; rfl)); intro z; (try clear c1_0_1); have c1_0_1 := z; clear z)))); (try (have _ : w1.heap.size + 1 < w2.heap.size := (by omega); (try (apply fk hb2 (w1.heap.size + 1); (focus (go_simp; rfl)); (focus (intro o; go_simp)); intro z; (try clear f1_1); have f1_1 := z; clear z)); (try (apply ck hb2 (w1.heap.size + 1) 0; (focus (go_simp; rfl)); intro z; (try clear c1_1_0); have c1_1_0 := z; clear z; (try (apply ck hb2 (w1.heap.size + 1) 1; (focus (go_simp; rfl)); intro z; (try clear c1_1_1); have c1_1_1 := z; clear z)))))))); clear hle; (try (apply old_keep (w0 := w) (w := w2); (focus ((repeat (first | (with_reducible exact Up.refl _) | (with_reducible assumption) | (with_reducible refine Up.alloc ?_ _) | (with_reducible refine Up.drew ?_) | ((with_reducible refine Up.set ?_ ?_ _); rotate_left; focus (first | omega | (simp; done) | (simp; omega))) | (with_reducible refine Up.drewN ?_ _) | (with_reducible refine Up.call ?_ (by with_reducible assumption)))))); intro y z; (try clear hUp); (try clear hOld); have hUp := y; have hOld := z; clear y z))))
    | ((go_at_call 56; (with_reducible refine (rsmall_any _ _ _ _ _ (Hr.out.up (by (repeat (first | (with_reducible exact Up.refl _) | (with_reducible assumption) | (with_reducible refine Up.alloc ?_ _) | (with_reducible refine Up.drew ?_) | ((with_reducible refine Up.set ?_ ?_ _); rotate_left; focus (first | omega | (simp; done) | (simp; omega))) | (with_reducible refine Up.drewN ?_ _) | (with_reducible refine Up.call ?_ (by with_reducible assumption)))))) Hmax.out).mono ?_); rintro e w3 ⟨x3, hx3, rfl, hb3⟩ <;> (have H3 := hid hx3; clear hx3)) <;> (have hle := Up.le hb3; (try simp only [World.size_alloc, World.size_setCell, World.size_drew, World.heap_drewN] at hle); (try (have _ : w.heap.size < w3.heap.size := (by omega); (try (apply fk hb3 (w.heap.size); (focus (go_simp; rfl)); (focus (intro o; go_simp)); intro z; (try clear f_0); have f_0 := z; clear z)); (try (apply ck hb3 (w.heap.size) 0; (focus (go_simp; rfl)); intro z; (try clear c_0_0); have c_0_0 := z; clear z; (try (apply ck hb3 (w.heap.size) 1; (focus (go_simp; rfl)); intro z; (try clear c_0_1); have c_0_1 := z; clear z)))); (try (have _ : w.heap.size + 1 < w3.heap.size := (by omega); (try (apply fk hb3 (w.heap.size + 1); (focus (go_simp; rfl)); (focus (intro o; go_simp)); intro z; (try clear f_1); have f_1 := z; clear z)); (try (apply ck hb3 (w.heap.size + 1) 0; (focus (go_simp; rfl)); intro z; (try clear c_1_0); have c_1_0 := z; clear z; (try (apply ck hb3 (w.heap.size + 1) 1; (focus (go_simp; rfl)); intro z; (try clear c_1_1); have c_1_1 := z; clear z)))))))); (try (have _ : w1.heap.size < w3.heap.size := (by omega); (try (apply fk hb3 (w1.heap.size); (focus (go_simp; rfl)); (focus (intro o; go_simp)); intro z; (try clear f1_0); have f1_0 := z; clear z)); (try (apply ck hb3 (w1.heap.size) 0; (focus (go_simp; rfl)); intro z; (try clear c1_0_0); have c1_0_0 := z; clear z; (try (apply ck hb3 (w1.heap.size) 1; (focus (go_simp; rfl)); intro z; (try clear c1_0_1); have c1_0_1 := z; clear z)))); (try (have _ : w1.heap.size + 1 < w3.heap.size := (by omega); (try (apply fk hb3 (w1.heap.size + 1); (focus (go_simp; rfl)); (focus (intro o; go_simp)); intro z; (try clear f1_1); have f1_1 := z; clear z)); (try (apply ck hb3 (w1.heap.size + 1) 0; (focus (go_simp; rfl)); intro z; (try clear c1_1_0); have c1_1_0 := z; clear z; (try (apply ck hb3 (w1.heap.size + 1) 1; (focus (go_simp; rfl)); intro z; (try clear c1_1_1); have c1_1_1 := z; clear z)))))))); (try (have _ : w2.heap.size < w3.heap.size := (by omega); (try (apply fk hb3 (w2.heap.size); (focus (go_simp; rfl)); (focus (intro o; go_simp)); intro z; (try clear f2_0); have f2_0 := z; clear z)); (try (apply ck hb3 (w2.heap.size) 0; (focus (go_simp; rfl)); intro z; (try clear c2_0_0); have c2_0_0 := z; clear z; (try (apply ck hb3 (w2.heap.size) 1; (focus (go_simp; rfl)); intro z; (try clear c2_0_1); have c2_0_1 := z; clear z)))); (try (have _ : w2.heap.size + 1 < w3.heap.size := (by omega); (try (apply fk hb3 (w2.heap.size + 1); (focus (go_simp; rfl)); (focus (intro o; go_simp)); intro z; (try clear f2_1); have f2_1 := z; clear z)); (try (apply ck hb3 (w2.heap.size + 1) 0; (focus (go_simp; rfl)); intro z; (try clear c2_1_0); have c2_1_0 := z; clear z; (try (apply ck hb3 (w2.heap.size + 1) 1; (focus (go_simp; rfl)); intro z; (try clear c2_1_1); have c2_1_1 := z; clear z)))))))); clear hle; (try (apply old_keep (w0 := w) (w := w3); (focus ((repeat (first | (with_reducible exact Up.refl _) | (with_reducible assumption) | (with_reducible refine Up.alloc ?_ _) | (with_reducible refine Up.drew ?_) | ((with_reducible refine Up.set ?_ ?_ _); rotate_left; focus (first | omega | (simp; done) | (simp; omega))) | (with_reducible refine Up.drewN ?_ _) | (with_reducible refine Up.call ?_ (by with_reducible assumption)))))); intro y z; (try clear hUp); (try clear hOld); have hUp := y; have hOld := z; clear y z))))
    | ((go_at_call 81; (refine (HF.out _ _ (rdi2 (by go_simp) (by go_simp))).mono ?_); rintro e w1 ⟨x1, v1, hx1, rfl, hv1, hb1⟩ <;> (rw [fact_find] at hx1; subst hx1; obtain ⟨g1, o1, c1, rfl, lg1, cg0, cg1, hc1⟩ := slE_two hv1; clear hv1)) <;> (have hle := Up.le hb1; (try simp only [World.size_alloc, World.size_setCell, World.size_drew, World.heap_drewN] at hle); (try (have _ : w.heap.size < w1.heap.size := (by omega); (try (apply fk hb1 (w.heap.size); (focus (go_simp; rfl)); (focus (intro o; go_simp)); intro z; (try clear f_0); have f_0 := z; clear z)); (try (apply ck hb1 (w.heap.size) 0; (focus (go_simp; rfl)); intro z; (try clear c_0_0); have c_0_0 := z; clear z; (try (apply ck hb1 (w.heap.size) 1; (focus (go_simp; rfl)); intro z; (try clear c_0_1); have c_0_1 := z; clear z)))); (try (have _ : w.heap.size + 1 < w1.heap.size := (by omega); (try (apply fk hb1 (w.heap.size + 1); (focus (go_simp; rfl)); (focus (intro o; go_simp)); intro z; (try clear f_1); have f_1 := z; clear z)); (try (apply ck hb1 (w.heap.size + 1) 0; (focus (go_simp; rfl)); intro z; (try clear c_1_0); have c_1_0 := z; clear z; (try (apply ck hb1 (w.heap.size + 1) 1; (focus (go_simp; rfl)); intro z; (try clear c_1_1); have c_1_1 := z; clear z)))))))); clear hle; (try (apply old_keep (w0 := w) (w := w1); (focus ((repeat (first | (with_reducible exact Up.refl _) | (with_reducible assumption) | (with_reducible refine Up.alloc ?_ _) | (with_reducible refine Up.drew ?_) | ((with_reducible refine Up.set ?_ ?_ _); rotate_left; focus (first | omega | (simp; done) | (simp; omega))) | (with_reducible refine Up.drewN ?_ _) | (with_reducible refine Up.call ?_ (by with_reducible assumption)))))); intro y z; (try clear hUp); (try clear hOld); have hUp := y; have hOld := z; clear y z)))))
  have hU3 : Up w w3 := by (repeat (first | (with_reducible exact Up.refl _) | (with_reducible assumption) | (with_reducible refine Up.alloc ?_ _) | (with_reducible refine Up.drew ?_) | ((with_reducible refine Up.set ?_ ?_ _); rotate_left; focus (first | omega | (simp; done) | (simp; omega))) | (with_reducible refine Up.drewN ?_ _) | (with_reducible refine Up.call ?_ (by with_reducible assumption))))
  have C0 : Cf w3 w.heap.size 0 (.int .i64 lo) := ⟨by go_simp, by go_simp⟩
  have C1 : Cf w3 w.heap.size 1 (.int .i64 hi) := ⟨by go_simp, by go_simp⟩
  go_cut [14] (fun s14 wx => s14 = .bool nought ∧ Up w wx ∧ Cf wx w.heap.size 0 (.int .i64 lo) ∧ Cf wx w.heap.size 1 (.int .i64 hi))
  case first =>
    rcases Hno.out with ⟨H1, rfl⟩ | ⟨H1, d1, rfl⟩ | ⟨H1, d1, d2, rfl⟩ | ⟨H1, d1, d2, d3, rfl⟩ | ⟨H1, d1, d2, d3, rfl, rfl⟩
    all_goals
      have H1' := H1.out
      rw [H3.out] at H1'
      subst H1'
      go_wp2_with (first
                        | ((go_at_call 69; (with_reducible refine (rexact_any _ _ _ _ _ (Hr.out.up (by (repeat (first | (with_reducible exact Up.refl _) | (with_reducible assumption) | (with_reducible refine Up.alloc ?_ _) | (with_reducible refine Up.drew ?_) | ((with_reducible refine Up.set ?_ ?_ _); rotate_left; focus (first | omega | (simp; done) | (simp; omega))) | (with_reducible refine Up.drewN ?_ _) | (with_reducible refine Up.call ?_ (by with_reducible assumption)))))) H1.out).mono ?_); rintro e w4 ⟨x4, hx4, rfl, hb4⟩ <;> (rw [HEn.out] at hx4; subst hx4)) <;> (have hle := Up.le hb4; (try simp only [World.size_alloc, World.size_setCell, World.size_drew, World.heap_drewN] at hle); (try (have _ : w.heap.size < w4.heap.size := (by omega); (try (apply fk hb4 (w.heap.size); (focus (go_simp; rfl)); (focus (intro o; go_simp)); intro z; (try clear f_0); have f_0 := z; clear z)); (try (apply ck hb4 (w.heap.size) 0; (focus (go_simp; rfl)); intro z; (try clear c_0_0); have c_0_0 := z; clear z; (try (apply ck hb4 (w.heap.size) 1; (focus (go_simp; rfl)); intro z; (try clear c_0_1); have c_0_1 := z; clear z)))); (try (have _ : w.heap.size + 1 < w4.heap.size := (by omega); (try (apply fk hb4 (w.heap.size + 1); (focus (go_simp; rfl)); (focus (intro o; go_simp)); intro z; (try clear f_1); have f_1 := z; clear z)); (try (apply ck hb4 (w.heap.size + 1) 0; (focus (go_simp; rfl)); intro z; (try clear c_1_0); have c_1_0 := z; clear z; (try (apply ck hb4 (w.heap.size + 1) 1; (focus (go_simp; rfl)); intro z; (try clear c_1_1); have c_1_1 := z; clear z)))))))); (try (have _ : w1.heap.size < w4.heap.size := (by omega); (try (apply fk hb4 (w1.heap.size); (focus (go_simp; rfl)); (focus (intro o; go_simp)); intro z; (try clear f1_0); have f1_0 := z; clear z)); (try (apply ck hb4 (w1.heap.size) 0; (focus (go_simp; rfl)); intro z; (try clear c1_0_0); have c1_0_0 := z; clear z; (try (apply ck hb4 (w1.heap.size) 1; (focus (go_simp; rfl)); intro z; (try clear c1_0_1); have c1_0_1 := z; clear z)))); (try (have _ : w1.heap.size + 1 < w4.heap.size := (by omega); (try (apply fk hb4 (w1.heap.size + 1); (focus (go_simp; rfl)); (focus (intro o; go_simp)); intro z; (try clear f1_1); have f1_1 := z; clear z)); (try (apply ck hb4 (w1.heap.size + 1) 0; (focus (go_simp; rfl)); intro z; (try clear c1_1_0); have c1_1_0 := z; clear z; (try (apply ck hb4 (w1.heap.size + 1) 1; (focus (go_simp; rfl)); intro z; (try clear c1_1_1); have c1_1_1 := z; clear z)))))))); (try (have _ : w2.heap.size < w4.heap.size := (by omega); (try (apply fk hb4 (w2.heap.size); (focus (go_simp; rfl)); (focus (intro o; go_simp)); intro z; (try clear f2_0); have f2_0 := z; clear z)); (try (apply ck hb4 (w2.heap.size) 0; (focus (go_simp; rfl)); intro z; (try clear c2_0_0); have c2_0_0 := z; clear z; (try (apply ck hb4 (w2.heap.size) 1; (focus (go_simp; rfl)); intro z; (try clear c2_0_1); have c2_0_1 := z; clear z)))); (try (have _ : w2.heap.size + 1 < w4.heap.size := (by omega); (try (apply fk hb4 (w2.heap.size + 1); (focus (go_simp; rfl)); (focus (intro o; go_simp)); intro z; (try clear f2_1); have f2_1 := z; clear z)); (try (apply ck hb4 (w2.heap.size + 1) 0; (focus (go_simp; rfl)); intro z; (try clear c2_1_0); have c2_1_0 := z; clear z; (try (apply ck hb4 (w2.heap.size + 1) 1; (focus (go_simp; rfl)); intro z; (try clear c2_1_1); have c2_1_1 := z; clear z)))))))); (try (have _ : w3.heap.size < w4.heap.size := (by omega); (try (apply fk hb4 (w3.heap.size); (focus (go_simp; rfl)); (focus (intro o; go_simp)); intro z; (try clear f3_0); have f3_0 := z; clear z)); (try (apply ck hb4 (w3.heap.size) 0; (focus (go_simp; rfl)); intro z; (try clear c3_0_0); have c3_0_0 := z; clear z; (try (apply ck hb4 (w3.heap.size) 1; (focus (go_simp; rfl)); intro z; (try clear c3_0_1); have c3_0_1 := z; clear z)))); (try (have _ : w3.heap.size + 1 < w4.heap.size := (by omega); (try (apply fk hb4 (w3.heap.size + 1); (focus (go_simp; rfl)); (focus (intro o; go_simp)); intro z; (try clear f3_1); have f3_1 := z; clear z)); (try (apply ck hb4 (w3.heap.size + 1) 0; (focus (go_simp; rfl)); intro z; (try clear c3_1_0); have c3_1_0 := z; clear z; (try (apply ck hb4 (w3.heap.size + 1) 1; (focus (go_simp; rfl)); intro z; (try clear c3_1_1); have c3_1_1 := z; clear z)))))))); clear hle; (try (apply old_keep (w0 := w) (w := w4); (focus ((repeat (first | (with_reducible exact Up.refl _) | (with_reducible assumption) | (with_reducible refine Up.alloc ?_ _) | (with_reducible refine Up.drew ?_) | ((with_reducible refine Up.set ?_ ?_ _); rotate_left; focus (first | omega | (simp; done) | (simp; omega))) | (with_reducible refine Up.drewN ?_ _) | (with_reducible refine Up.call ?_ (by with_reducible assumption)))))); intro y z; (try clear hUp); (try clear hOld); have hUp := y; have hOld := z; clear y z)))))
      go_meet
      refine ⟨rfl, ?_, ?_, ?_⟩
      · (repeat (first | (with_reducible exact Up.refl _) | (with_reducible assumption) | (with_reducible refine Up.alloc ?_ _) | (with_reducible refine Up.drew ?_) | ((with_reducible refine Up.set ?_ ?_ _); rotate_left; focus (first | omega | (simp; done) | (simp; omega))) | (with_reducible refine Up.drewN ?_ _) | (with_reducible refine Up.call ?_ (by with_reducible assumption))))
      · first | exact C0 | exact Cf.up C0 (by (repeat (first | (with_reducible exact Up.refl _) | (with_reducible assumption) | (with_reducible refine Up.alloc ?_ _) | (with_reducible refine Up.drew ?_) | ((with_reducible refine Up.set ?_ ?_ _); rotate_left; focus (first | omega | (simp; done) | (simp; omega))) | (with_reducible refine Up.drewN ?_ _) | (with_reducible refine Up.call ?_ (by with_reducible assumption)))))
      · first | exact C1 | exact Cf.up C1 (by (repeat (first | (with_reducible exact Up.refl _) | (with_reducible assumption) | (with_reducible refine Up.alloc ?_ _) | (with_reducible refine Up.drew ?_) | ((with_reducible refine Up.set ?_ ?_ _); rotate_left; focus (first | omega | (simp; done) | (simp; omega))) | (with_reducible refine Up.drewN ?_ _) | (with_reducible refine Up.call ?_ (by with_reducible assumption)))))
  case rest =>
    obtain ⟨rfl, hUc, ⟨c0, g0⟩, ⟨c1, g1⟩⟩ := hcut
    have HUc := hid hUc
    have l0 := World.block_lt_of_cell? _ _ c0
    dsimp only at l0
    clear C0 C1 Hno H3 hUc
    have HC0 := hid (show Cf wc w.heap.size 0 (.int .i64 lo) from ⟨c0, g0⟩)
    have HC1 := hid (show Cf wc w.heap.size 1 (.int .i64 hi) from ⟨c1, g1⟩)
    go_upto_region 9 with fail
    go_cut [81] (fun s81 wx => s81 = .bool false ∧ Up w wx ∧ Cf wx w.heap.size 0 (.int .i64 lo) ∧ Cf wx w.heap.size 1 (.int .i64 hi))
    case first =>
      rcases Kc.out with ⟨rfl, rfl⟩ | ⟨rfl, rfl⟩ | ⟨rfl, rfl⟩
      all_goals
        go_wp2
        go_meet
        exact ⟨rfl, HUc.out, HC0.out, HC1.out⟩
    case rest =>
    obtain ⟨rfl, hUd, hC0, hC1⟩ := hcut
    clear HUc HC0 HC1 c0 g0 c1 g1 l0
    obtain ⟨c0, g0⟩ := hC0
    obtain ⟨c1, g1⟩ := hC1
    have HUc := hid hUd
    have l0 := World.block_lt_of_cell? _ _ c0
    dsimp only at l0
    clear hUd
    go_wp2_with (first
                        | ((go_at_call 81; refine (Find_any _ p _ _ _ least _ Hcap.out (Hr.out.up (HUc.out.call (by (repeat (first | (with_reducible exact Up.refl _) | (with_reducible assumption) | (with_reducible refine Up.alloc ?_ _) | (with_reducible refine Up.drew ?_) | ((with_reducible refine Up.set ?_ ?_ _); rotate_left; focus (first | omega | (simp; done) | (simp; omega))) | (with_reducible refine Up.drewN ?_ _) | (with_reducible refine Up.call ?_ (by with_reducible assumption)))))))).mono ?_; rintro e w5 ⟨x5, v5, hx5, rfl, hv5, hb5⟩); rw [HFi.out] at hx5; subst hx5; obtain ⟨A5, c5, rfl, hrd5, hc5⟩ := slE_ok hv5; have Hrd5 := hid hrd5; clear hv5 hrd5; obtain ⟨hd5, hf5⟩ := bcell hb5))
    have HU5 := hid (show Up wc w5 by (repeat (first | (with_reducible exact Up.refl _) | (with_reducible assumption) | (with_reducible refine Up.alloc ?_ _) | (with_reducible refine Up.drew ?_) | ((with_reducible refine Up.set ?_ ?_ _); rotate_left; focus (first | omega | (simp; done) | (simp; omega))) | (with_reducible refine Up.drewN ?_ _) | (with_reducible refine Up.call ?_ (by with_reducible assumption)))))
    have D0 := Cf.up (show Cf wc w.heap.size 0 (.int .i64 lo) from ⟨c0, g0⟩) HU5.out
    have D1 := Cf.up (show Cf wc w.heap.size 1 (.int .i64 hi) from ⟨c1, g1⟩) HU5.out
    clear c0 g0 c1 g1
    go_loopw [16, 17] (fun v i wr => ∃ k : Nat, k ≤ l.length ∧ v = .bool (inB (l.take k) n) ∧ i = .int .i64 k ∧ Up w5 wr ∧ Cf wr w.heap.size 0 (.int .i64 lo) ∧ Cf wr w.heap.size 1 (.int .i64 hi)) (fun _ i _ => l.length - (intOf i).toNat)
    case atStart => exact ⟨0, by omega, rfl, rfl, Up.refl _, D0, D1⟩
    case round =>
      clear D0 D1
      obtain ⟨k, hk, rfl, rfl, hU, ⟨c0, g0⟩, ⟨c1, g1⟩⟩ := hrel
      have gr := (bcell hU).1
      have hle := hU.le
      have l1 := World.block_lt_of_cell? wr _ c0
      dsimp only at l1
      by_cases hlt : k < l.length
      · obtain ⟨b1, o1, rfl, lb, cc⟩ := (Hrd5.out).at (by omega)
        obtain ⟨q1, q2⟩ := cc k hlt
        have j1 := (gr _ _ lb).trans q1
        have j2 := (gr _ _ lb).trans q2
        have _ : b1 < wr.heap.size := by omega
        obtain ⟨p1, p2, p3, p4⟩ := Kp.out k hlt
        (try dsimp only at p1 p3)
        have Htk := hid (inB_take (n := n) hlt)
        have Hlt := hid hlt
        have hdk : decide ((k : Int) < (l.length : Int)) = true := by simp; omega
        have hkl : (k : Int) < (l.length : Int) := by omega
        have hk0 : (0 : Int) ≤ (k : Int) := by omega
        have hk9 : (k : Int) < 32 := by have := K32.out; omega
        by_cases hz : k = 0
        · as_aux_lemma =>
            subst hz
            have j1' : wr.cell? ⟨b1, o1, none⟩ = some (.int .i64 (l[0]?.getD (⟨0, 0⟩ : Sp)).lo) := by simpa only [Nat.zero_mul, Nat.add_zero] using j1
            have j2' : wr.cell? ⟨b1, o1 + 1, none⟩ = some (.int .i64 (l[0]?.getD (⟨0, 0⟩ : Sp)).hi) := by simpa only [Nat.zero_mul, Nat.add_zero] using j2
            clear j1 j2
            generalize l[0]?.getD ⟨0, 0⟩ = s at *
            have e1 : decide (s.lo < lo) = false := decide_eq_false (by omega)
            have e2 : decide (hi < s.hi) = false := decide_eq_false (by omega)
            have e3 : decide (s.hi < s.lo) = false := decide_eq_false (by omega)
            have e4 : decide (least < s.hi - s.lo) = false := decide_eq_false (by omega)
            have hwr : IntKind.i64.wrap (s.hi - s.lo) = s.hi - s.lo := wrap_mid3 (by omega) (by omega)
            have hb1 : -2000000000 ≤ s.hi - s.lo := by omega
            have hb2 : s.hi - s.lo ≤ 2000000000 := by omega
            clear cc q1 q2 gr hlt p1 p2 p3 p4
            go_wp2_with fail
            go_quiet (fail)
            cases f1 : decide (s.lo ≤ n) <;> cases f2 : decide (n ≤ s.hi)
            all_goals go_wp2
            all_goals
              go_roundw
              case rel =>
                refine ⟨0 + 1, by have := Hlt.out; omega, ?_, by go_num, hU.call (by (repeat (first | (with_reducible exact Up.refl _) | (with_reducible assumption) | (with_reducible refine Up.alloc ?_ _) | (with_reducible refine Up.drew ?_) | ((with_reducible refine Up.set ?_ ?_ _); rotate_left; focus (first | omega | (simp; done) | (simp; omega))) | (with_reducible refine Up.drewN ?_ _) | (with_reducible refine Up.call ?_ (by with_reducible assumption))))), Cf.up ⟨c0, g0⟩ (by (repeat (first | (with_reducible exact Up.refl _) | (with_reducible assumption) | (with_reducible refine Up.alloc ?_ _) | (with_reducible refine Up.drew ?_) | ((with_reducible refine Up.set ?_ ?_ _); rotate_left; focus (first | omega | (simp; done) | (simp; omega))) | (with_reducible refine Up.drewN ?_ _) | (with_reducible refine Up.call ?_ (by with_reducible assumption))))), Cf.up ⟨c1, g1⟩ (by (repeat (first | (with_reducible exact Up.refl _) | (with_reducible assumption) | (with_reducible refine Up.alloc ?_ _) | (with_reducible refine Up.drew ?_) | ((with_reducible refine Up.set ?_ ?_ _); rotate_left; focus (first | omega | (simp; done) | (simp; omega))) | (with_reducible refine Up.drewN ?_ _) | (with_reducible refine Up.call ?_ (by with_reducible assumption)))))⟩
                rw [Htk.out, f1, f2]; rfl
              case measure => have := Hlt.out; simp [intOf]; omega
        · as_aux_lemma =>
            obtain ⟨j, rfl⟩ : ∃ j, k = j + 1 := ⟨k - 1, by omega⟩
            obtain ⟨r1, r2⟩ := cc j (by omega)
            have j3 := (gr _ _ lb).trans r1
            have j4 := (gr _ _ lb).trans r2
            have p5 := Kn.out j hlt
            obtain ⟨p6, p7, p8, p9⟩ := Kp.out j (by omega)
            (try dsimp only at p6 p8)
            generalize l[j + 1]?.getD ⟨0, 0⟩ = s at *
            generalize l[j]?.getD ⟨0, 0⟩ = t at *
            have e1 : decide (s.lo < lo) = false := decide_eq_false (by omega)
            have e2 : decide (hi < s.hi) = false := decide_eq_false (by omega)
            have e3 : decide (s.hi < s.lo) = false := decide_eq_false (by omega)
            have e4 : decide (least < s.hi - s.lo) = false := decide_eq_false (by omega)
            have e5 : decide (s.lo < t.hi) = false := decide_eq_false (by omega)
            have e6 : decide (0 < (j : Int) + 1) = true := decide_eq_true (by omega)
            have hwr : IntKind.i64.wrap (s.hi - s.lo) = s.hi - s.lo := wrap_mid3 (by omega) (by omega)
            have hwj : IntKind.i64.wrap (j : Int) = (j : Int) := wrap_mid3 (by omega) (by omega)
            have hb1 : -2000000000 ≤ s.hi - s.lo := by omega
            have hb2 : s.hi - s.lo ≤ 2000000000 := by omega
            have hj0 : (0 : Int) ≤ (j : Int) := by omega
            have hj1 : (0 : Int) ≤ (j : Int) + 1 := by omega
            have hj2 : (j : Int) + 1 < (l.length : Int) := by omega
            have hj3 : (j : Int) < (l.length : Int) := by omega
            have hj4 : (j : Int) + 1 < 32 := by omega
            have hdj : decide ((j : Int) + 1 < (l.length : Int)) = true := decide_eq_true hj2
            clear cc q1 q2 r1 r2 gr hlt p1 p2 p3 p4 p5 p6 p7 p8 p9 hz hdk hkl hk0 hk9
            go_wp2_with fail
            go_quiet (fail)
            cases f0 : inB (l.take (j + 1)) n <;> cases f1 : decide (s.lo ≤ n) <;> cases f2 : decide (n ≤ s.hi)
            all_goals go_wp2
            all_goals
              go_roundw
              case rel =>
                refine ⟨j + 1 + 1, by have := Hlt.out; omega, ?_, by go_num, hU.call (by (repeat (first | (with_reducible exact Up.refl _) | (with_reducible assumption) | (with_reducible refine Up.alloc ?_ _) | (with_reducible refine Up.drew ?_) | ((with_reducible refine Up.set ?_ ?_ _); rotate_left; focus (first | omega | (simp; done) | (simp; omega))) | (with_reducible refine Up.drewN ?_ _) | (with_reducible refine Up.call ?_ (by with_reducible assumption))))), Cf.up ⟨c0, g0⟩ (by (repeat (first | (with_reducible exact Up.refl _) | (with_reducible assumption) | (with_reducible refine Up.alloc ?_ _) | (with_reducible refine Up.drew ?_) | ((with_reducible refine Up.set ?_ ?_ _); rotate_left; focus (first | omega | (simp; done) | (simp; omega))) | (with_reducible refine Up.drewN ?_ _) | (with_reducible refine Up.call ?_ (by with_reducible assumption))))), Cf.up ⟨c1, g1⟩ (by (repeat (first | (with_reducible exact Up.refl _) | (with_reducible assumption) | (with_reducible refine Up.alloc ?_ _) | (with_reducible refine Up.drew ?_) | ((with_reducible refine Up.set ?_ ?_ _); rotate_left; focus (first | omega | (simp; done) | (simp; omega))) | (with_reducible refine Up.drewN ?_ _) | (with_reducible refine Up.call ?_ (by with_reducible assumption)))))⟩
                rw [Htk.out, f0, f1, f2]; rfl
              case measure => have := Hlt.out; simp [intOf]; omega
      · as_aux_lemma =>
          obtain rfl : k = l.length := by omega
          rw [List.take_length]
          have HU := hid ((HUc.out.call HU5.out).call hU)
          have dl : decide ((l.length : Int) ≤ 32) = true := decide_eq_true (by have := K32.out; omega)
          clear gr hlt hk
          rcases Kc.out with ⟨rfl, rfl⟩ | ⟨rfl, rfl⟩ | ⟨rfl, rfl⟩
          · have hl0 := Km.out rfl
            subst hl0
            clear Km HIn Kc Hnt
            cases hs : sureF p ⟨lo, hi⟩ with
            | error e7 =>
              have HS := hid hs; clear hs
              go_wp2_with (first
                        | ((go_at_call 83; refine (Sure_any _ p _ _ _ _ Hcap.out (Hr.out.up (HU.out.call (by (repeat (first | (with_reducible exact Up.refl _) | (with_reducible assumption) | (with_reducible refine Up.alloc ?_ _) | (with_reducible refine Up.drew ?_) | ((with_reducible refine Up.set ?_ ?_ _); rotate_left; focus (first | omega | (simp; done) | (simp; omega))) | (with_reducible refine Up.drewN ?_ _) | (with_reducible refine Up.call ?_ (by with_reducible assumption)))))))).mono ?_; rintro e w7 ⟨x7, hx7, rfl, hb7⟩); rw [HS.out] at hx7; subst hx7))
              go_ret
              exact LawEnd.mk (by first | rfl | (simp; done)) (HU.out.call (by (repeat (first | (with_reducible exact Up.refl _) | (with_reducible assumption) | (with_reducible refine Up.alloc ?_ _) | (with_reducible refine Up.drew ?_) | ((with_reducible refine Up.set ?_ ?_ _); rotate_left; focus (first | omega | (simp; done) | (simp; omega))) | (with_reducible refine Up.drewN ?_ _) | (with_reducible refine Up.call ?_ (by with_reducible assumption))))))
            | ok v =>
              cases v with
              | true => exact absurd rfl (Ks.out hs)
              | false =>
                have HS := hid hs; clear hs
                go_wp2_with (first
                        | ((go_at_call 83; refine (Sure_any _ p _ _ _ _ Hcap.out (Hr.out.up (HU.out.call (by (repeat (first | (with_reducible exact Up.refl _) | (with_reducible assumption) | (with_reducible refine Up.alloc ?_ _) | (with_reducible refine Up.drew ?_) | ((with_reducible refine Up.set ?_ ?_ _); rotate_left; focus (first | omega | (simp; done) | (simp; omega))) | (with_reducible refine Up.drewN ?_ _) | (with_reducible refine Up.call ?_ (by with_reducible assumption)))))))).mono ?_; rintro e w7 ⟨x7, hx7, rfl, hb7⟩); rw [HS.out] at hx7; subst hx7))
                go_ret
                exact LawEnd.mk (by first | rfl | (simp; done)) (HU.out.call (by (repeat (first | (with_reducible exact Up.refl _) | (with_reducible assumption) | (with_reducible refine Up.alloc ?_ _) | (with_reducible refine Up.drew ?_) | ((with_reducible refine Up.set ?_ ?_ _); rotate_left; focus (first | omega | (simp; done) | (simp; omega))) | (with_reducible refine Up.drewN ?_ _) | (with_reducible refine Up.call ?_ (by with_reducible assumption))))))
          all_goals
            (try rw [HIn.out rfl])
            clear Km HIn Kc Hnt
            cases hs : sureF p ⟨lo, hi⟩ with
            | error e7 =>
              have HS := hid hs; clear hs
              go_wp2_with (first
                        | ((go_at_call 83; refine (Sure_any _ p _ _ _ _ Hcap.out (Hr.out.up (HU.out.call (by (repeat (first | (with_reducible exact Up.refl _) | (with_reducible assumption) | (with_reducible refine Up.alloc ?_ _) | (with_reducible refine Up.drew ?_) | ((with_reducible refine Up.set ?_ ?_ _); rotate_left; focus (first | omega | (simp; done) | (simp; omega))) | (with_reducible refine Up.drewN ?_ _) | (with_reducible refine Up.call ?_ (by with_reducible assumption)))))))).mono ?_; rintro e w7 ⟨x7, hx7, rfl, hb7⟩); rw [HS.out] at hx7; subst hx7))
              all_goals
                go_ret
                exact LawEnd.mk (by first | rfl | (simp; done) | simp [*]) (HU.out.call (by (repeat (first | (with_reducible exact Up.refl _) | (with_reducible assumption) | (with_reducible refine Up.alloc ?_ _) | (with_reducible refine Up.drew ?_) | ((with_reducible refine Up.set ?_ ?_ _); rotate_left; focus (first | omega | (simp; done) | (simp; omega))) | (with_reducible refine Up.drewN ?_ _) | (with_reducible refine Up.call ?_ (by with_reducible assumption))))))
            | ok v =>
              cases v with
              | false =>
                have HS := hid hs; clear hs
                go_wp2_with (first
                        | ((go_at_call 83; refine (Sure_any _ p _ _ _ _ Hcap.out (Hr.out.up (HU.out.call (by (repeat (first | (with_reducible exact Up.refl _) | (with_reducible assumption) | (with_reducible refine Up.alloc ?_ _) | (with_reducible refine Up.drew ?_) | ((with_reducible refine Up.set ?_ ?_ _); rotate_left; focus (first | omega | (simp; done) | (simp; omega))) | (with_reducible refine Up.drewN ?_ _) | (with_reducible refine Up.call ?_ (by with_reducible assumption)))))))).mono ?_; rintro e w7 ⟨x7, hx7, rfl, hb7⟩); rw [HS.out] at hx7; subst hx7))
                all_goals
                  go_ret
                  exact LawEnd.mk (by first | rfl | (simp; done) | simp [*]) (HU.out.call (by (repeat (first | (with_reducible exact Up.refl _) | (with_reducible assumption) | (with_reducible refine Up.alloc ?_ _) | (with_reducible refine Up.drew ?_) | ((with_reducible refine Up.set ?_ ?_ _); rotate_left; focus (first | omega | (simp; done) | (simp; omega))) | (with_reducible refine Up.drewN ?_ _) | (with_reducible refine Up.call ?_ (by with_reducible assumption))))))
              | true =>
                have HNE := hid (List.length_pos_iff.2 (Ks.out hs))
                have d0 : decide (0 < (l.length : Int)) = true := decide_eq_true (by have := HNE.out; omega)
                have HS := hid hs; clear hs
                go_wp2_with (first
                        | ((go_at_call 83; refine (Sure_any _ p _ _ _ _ Hcap.out (Hr.out.up (HU.out.call (by (repeat (first | (with_reducible exact Up.refl _) | (with_reducible assumption) | (with_reducible refine Up.alloc ?_ _) | (with_reducible refine Up.drew ?_) | ((with_reducible refine Up.set ?_ ?_ _); rotate_left; focus (first | omega | (simp; done) | (simp; omega))) | (with_reducible refine Up.drewN ?_ _) | (with_reducible refine Up.call ?_ (by with_reducible assumption)))))))).mono ?_; rintro e w7 ⟨x7, hx7, rfl, hb7⟩); rw [HS.out] at hx7; subst hx7))
                all_goals
                  go_ret
                  first
                    | exact LawEnd.mk (by first | rfl | (simp; done) | (simp [*]; done)) (HU.out.call (by (repeat (first | (with_reducible exact Up.refl _) | (with_reducible assumption) | (with_reducible refine Up.alloc ?_ _) | (with_reducible refine Up.drew ?_) | ((with_reducible refine Up.set ?_ ?_ _); rotate_left; focus (first | omega | (simp; done) | (simp; omega))) | (with_reducible refine Up.drewN ?_ _) | (with_reducible refine Up.call ?_ (by with_reducible assumption))))))
                    | (exfalso; have := HNE.out; omega)
theorem rootKept_walk (A : Option Addr) (p : List Int) (c : Nat) (lo hi least n : Int) (w : World) (hL : LI w A p c) (_h : I64 lo ∧ I64 hi) (_h2 : I64 least) (_h3 : I64 n) :
    Calls Try.prog 26 #[.slice A p.length c, .agg #[.int .i64 lo, .int .i64 hi], .int .i64 least, .int .i64 n] w (LawEnd w) := by
  obtain ⟨hr, hcap, hmax, -⟩ := hL
  cases hm : mayF p ⟨lo, hi⟩ with
  | error e => exact rk_bad A p c lo hi least n w hr hcap hmax hm
  | ok may =>
    cases hf : findF p ⟨lo, hi⟩ least with
    | error e => exact rk_err A p c lo hi least n w hr hcap hmax hm hf
    | ok l => exact rk_ok A p c lo hi least n w hr hcap hmax hm hf
set_option maxRecDepth 100000 in
theorem rootKept_lifted (os : Os) (started : os.Started) (H : Type) (enc : TypeId × Value → H) :
    ReturnsInHanded {} Try.checked os 26 .any (Rows.rootKeptSpec.pre6 enc Try.prog Try.f26 Rows.rootKeptRow.domain false) (Rows.rootKeptSpec.post enc Try.prog Try.f26 false true false false) := by
  refine returnsInHanded_of_change (C := Try.checked) Try.own started (by kernel_rfl) Try.func26
    (ChangeSpec.witness6 (enc := enc) (C := Try.checked) false ⟨#[], #[.slice none 0 0, .agg #[.int .i64 0, .int .i64 0], .int .i64 0, .int .i64 0], []⟩ 8 (by kernel_rfl) (by kernel_rfl) (by kernel_rfl) (by kernel_rfl)) ?_
  intro W base args ds gs before hval0 hW hcnd _
  have hval : ∀ (j : Nat) t v, Try.f26.params[j]? = some t → args[j]? = some v → Value.okWide Try.prog W .any base t v := hval0
  have hW' := hW
  obtain ⟨p, q, hA0, hV, rfl, hfz, hnd⟩ := hW
  have hA : DataW.TrodAll enc Try.prog W 0 (fun _ => true) true Try.f26.params.toList args.toList ds p := hA0
  rw [Try.params26] at hA hval
  obtain ⟨v0, v1, v2, v3, d0, d1, d2, d3, p0, p1, p2, p3, rfl, rfl, rfl, h0, h1, h2, h3⟩ := trodAll_four hA
  obtain ⟨rfl, rfl⟩ := trodVars_none hV
  obtain ⟨A0, l0, c0, rfl, w0⟩ := open_ilist Try.underlying38 Try.underlying3 Try.cellsInt (hval 0 38 _ rfl rfl) h0
  obtain ⟨lo1, hi1, rfl, w1a, w1b⟩ := open_span (ti := 3) Try.underlying27 rfl rfl Try.underlying3 (by kernel_rfl) Try.cellsSpan (hval 1 27 _ rfl rfl) h1
  obtain ⟨n2, rfl, w2⟩ := open_i64 Try.underlying3 (hval 2 3 _ rfl rfl) h2
  obtain ⟨n3, rfl, w3⟩ := open_i64 Try.underlying3 (hval 3 3 _ rfl rfl) h3
  clear hA0 hval0
  refine (rootKept_walk A0 l0 c0 lo1 hi1 n2 n3 W w0 ⟨wf_I64 w1a, wf_I64 w1b⟩ w2 w3).mono fun e W' ⟨he, hu⟩ => ?_
  subst he
  exact ⟨_, rfl, law_post Try.laidOut rfl rfl Try.underlying4 (fun t ht => by simp [Try.params26] at ht; (try rcases ht with rfl | rfl | rfl); all_goals (first | (subst ht; exact ⟨by kernel_rfl, of_decide_eq_true (by kernel_rfl)⟩) | exact ⟨by kernel_rfl, of_decide_eq_true (by kernel_rfl)⟩)) hW' rfl rfl rfl hu⟩
theorem rootKept_k1 : (Rows.rootKeptRow.inPlace == Try.pinned.checked.prog.inPlace 26) = true := by kernel_rfl
theorem rootKept_k2 : (Rows.rootKeptRow.unfollowed == Try.pinned.checked.prog.unfollowed 26) = true := by kernel_rfl
theorem rootKept_k3 : (Rows.rootKeptRow.recurses == Try.pinned.checked.prog.recurses 26) = true := by kernel_rfl
theorem rootKept_k4 : (Rows.rootKeptRow.named == Try.pinned.checked.prog.varsNamed 26) = true := by kernel_rfl
theorem rootKept_facts : joinedFacts Try.pinned.checked.prog 26 Try.f26 Rows.rootKeptSpec Rows.rootKeptRow = true :=
  joined_of _ _ _ _ _ Try.g1 Try.g2 Try.g3 Try.g4 Try.g5 Try.g6 Try.g7 Try.g8 Try.g9 rootKept_k1 rootKept_k2 rootKept_k3 rootKept_k4 (by kernel_rfl)
theorem rootKept_holds : Rows.RootKeptSaid :=
  OpenClaim.holds_of_wide 26 Try.f26 rfl rfl rfl rfl rfl rfl rfl ⟨rfl, rfl, rfl, rfl, rfl⟩ rfl rfl rfl rfl rfl (by kernel_rfl) Try.func26 rootKept_facts
    (of_decide_eq_true (by kernel_rfl)) (by unfold Func.isWrapper; rw [if_neg (by decide +kernel)]; exact ⟨rfl, rfl⟩)
    (fun os started H enc _ => rootKept_lifted os started H enc)
#print axioms rootKept_holds
end Go.Proofs.Ytmnbgcbiaapldaa
