/- slices.Clone of any row of spans; the walk of hold.Grow. -/
import Derived.Test.YteoomjenekkomaaDoorHold
import Derived.Test.YteoomjenekkomaaDoorClone

set_option linter.unusedVariables false
set_option linter.unusedSimpArgs false
namespace Go.Proofs.YteoomjenekkomaaDoor
open Go.RowKit

set_option maxRecDepth 100000 in
set_option maxHeartbeats 1000000 in
theorem sclone_all (A : Option Addr) (l : List Sp) (c : Nat) (w : World) (hr : RdS w A l) (hm : l.length ≤ 1048576) :
    Calls Tryd.prog 85 #[.slice A l.length c] w (RetR slR l w) := by
  obtain ⟨i0, hi0, hz0, hz1, hz2⟩ := info_parts Tryd.infoSpan
  have Hr := hid hr; have Hm := hid hm; clear hr hm
  cases A with
  | none =>
    have hl : l = [] := by
      cases l with
      | nil => rfl
      | cons s l => obtain ⟨b, o, e, -⟩ := Hr.out (by simp); cases e
    subst hl
    have hnil : ∀ w', (binOp .eql 23 (.slice none 0 c) (.slice none 0 0)).run Tryd.prog w' = .ok (.bool true) w' := fun w' => Go.Lib.run_eql_slice_nil_nil w' _ _ Tryd.underlying23
    go_enter Tryd.func85, Tryd.ntmps85
    go_wp2
    go_ret
    refine RetR.mk [] ?_ rfl (rel := slR) ⟨none, 0, rfl, RdS.nil _ _, Nat.le_refl _⟩
    (repeat (first | (with_reducible exact Up.refl _) | (with_reducible assumption) | (with_reducible refine Up.alloc ?_ _) | (with_reducible refine Up.drew ?_) | ((with_reducible refine Up.set ?_ ?_ _); rotate_left; focus (first | omega | (simp; done) | (simp; omega))) | (with_reducible refine Up.drewN ?_ _) | (with_reducible refine Up.call ?_ (by with_reducible assumption))))
  | some p =>
    have hnil : ∀ w', (binOp .eql 23 (.slice (some p) l.length c) (.slice none 0 0)).run Tryd.prog w' = .ok (.bool false) w' := fun w' => Go.Lib.run_eql_slice_some_nil w' _ _ _ Tryd.underlying23
    have Hcell := hid (show ∀ j u, (spans l)[j]? = some u → (w.alloc (Obj.cells #[] 56)).cell? (p.add j) = some u from fun j u hj => by
      have hl := ((Up.refl w).alloc (Obj.cells #[] 56))
      cases l with
      | nil => simp [spans] at hj
      | cons s l =>
        obtain ⟨b, o, e, hb, hc⟩ := (Hr.out.up hl) (by simp)
        injection e with e
        subst e
        exact spans_cells hc j u hj)
    go_enter Tryd.func85, Tryd.ntmps85
    go_wp2_with (at_builtin; go_loud (refine wpList_append_own_at _ rfl (.tmp 5) (.tmp 6) _ rfl w.heap.size 56 i0 (.agg #[.int .i64 0, .int .i64 0]) 2 16 Tryd.underlying23 hi0 hz0 hz1 hz2 rfl (by decide) _ 0 [] rfl (World.ownsRow_lit w #[] 0 (Nat.le_refl _) (by decide) rfl) p l.length c (spans l) rfl (spans_len l) Hcell.out (spans_one l) (by have := Hm.out; unfold maxLen; omega) (by have := Hm.out; omega) (by simp) ?_); intro v8 w2 own8 g8 _ at8)
    have hown : OwnS w2 w.heap.size v8 l := by unfold OwnS; simpa using own8
    have hU : Up w w2 := Below.grown ((Up.refl w).alloc (Obj.cells #[] 56)) g8 (by simp) (fun j hj => by injection hj with hj; dsimp only at hj; omega)
    have hrd := hown.rd
    have Hrd := hid hrd
    clear own8 hown hrd
    go_ret
    exact RetR.mk l hU rfl (rel := slR) Hrd.out
theorem both_rt : ∀ (a b : List Sp), (∀ s ∈ a, Rt s) → (∀ s ∈ b, Rt s) → ∀ s ∈ bbothF a b, Rt s
  | [], b, _, _, s, hs => by simp [bbothF] at hs
  | t :: a, [], _, _, s, hs => by simp [bbothF] at hs
  | t :: a, u :: b, ha, hb, s, hs => by
    rcases List.mem_cons.1 (show s ∈ bothF t u :: bbothF a b from hs) with e | e
    · rw [e]
      obtain ⟨⟨a1, a2⟩, ⟨a3, a4⟩, a5⟩ := ha t (by simp)
      obtain ⟨⟨b1, b2⟩, ⟨b3, b4⟩, b5⟩ := hb u (by simp)
      unfold bothF
      exact ⟨⟨by dsimp only; omega, by dsimp only; omega⟩, ⟨by dsimp only; omega, by dsimp only; omega⟩, by dsimp only; omega⟩
    · exact both_rt a b (fun s hs => ha s (by simp [hs])) (fun s hs => hb s (by simp [hs])) s e
theorem growG_bad1 {s : Sy} {y : Int} {n e : Nat} {b : List Sp} (h : ofF s b = .error e) : growG s y (n + 1) b = .error e := by
  unfold growG; rw [h]
theorem growG_in {s : Sy} {y : Int} {n : Nat} {b x : List Sp} (h : ofF s b = .ok x) (h2 : inF x b = true) : growG s y (n + 1) b = .ok b := by
  unfold growG; rw [h]; dsimp only; rw [if_pos h2]
theorem growG_bad2 {s : Sy} {y : Int} {n e : Nat} {b x : List Sp} (h : ofF s b = .ok x) (h2 : inF x b = false) (h3 : widerF y (bbothF b x) = .error e) : growG s y (n + 1) b = .error e := by
  unfold growG; rw [h]; dsimp only; rw [if_neg (by simp [h2]), h3]
theorem growG_go {s : Sy} {y : Int} {n : Nat} {b x c : List Sp} (h : ofF s b = .ok x) (h2 : inF x b = false) (h3 : widerF y (bbothF b x) = .ok c) : growG s y (n + 1) b = growG s y n c := by
  conv => lhs; unfold growG
  rw [h]; dsimp only; rw [if_neg (by simp [h2]), h3]
theorem of_facts {s : Sy} {b x : List Sp} (h : ofF s b = .ok x) : x.length = b.length ∧ b.length ≤ 3 ∧ (∀ t ∈ b, Rt t) ∧ ∀ t ∈ x, Rt t := by
  obtain ⟨hs, hB, hl, hn⟩ := of_ok h
  have hx := next_bx hs hB hn
  exact ⟨hx.2.trans hl.symm, hB.few, hB.spans, hx.1.spans⟩
set_option maxRecDepth 100000 in
set_option maxHeartbeats 8000000 in
theorem grow_any (A B C : Option Addr) (s : Sy) (b : List Sp) (y m : Int) (c d e : Nat) (w : World) (hY : RY w A B s) (hb : RdS w C b) (hbl : b.length ≤ 1048576) :
    Calls Tryd.prog 33 #[.agg #[.slice A s.next.length c, .slice B s.push.length d], .slice C b.length e, .int .i64 y, .int .i64 m] w (RetR slE (growF s b y m) w) := by
  have HY := hid hY; have Hb := hid hb; have Hbl := hid hbl; clear hY hb hbl
  have hor : (decide (y < 0) = true) ∨ (decide (y < 0) = false ∧ decide (1000000000 < y) = true) ∨ (decide (y < 0) = false ∧ decide (1000000000 < y) = false ∧ decide (m < 0) = true) ∨ (decide (y < 0) = false ∧ decide (1000000000 < y) = false ∧ decide (m < 0) = false ∧ decide (20 < m) = true) ∨ (decide (y < 0) = false ∧ decide (1000000000 < y) = false ∧ decide (m < 0) = false ∧ decide (20 < m) = false) := by
    by_cases q1 : y < 0 <;> by_cases q2 : 1000000000 < y <;> by_cases q3 : m < 0 <;> by_cases q4 : 20 < m <;> simp only [q1, q2, q3, q4, decide_true, decide_false] <;> simp
  rcases hor with d1 | ⟨d1, d2⟩ | ⟨d1, d2, d3⟩ | ⟨d1, d2, d3, d4⟩ | ⟨d1, d2, d3, d4⟩
  rotate_left 4
  · have q1 : ¬ (y < 0) := by simpa using d1
    have q2 : ¬ (1000000000 < y) := by simpa using d2
    have q3 : ¬ (m < 0) := by simpa using d3
    have q4 : ¬ (20 < m) := by simpa using d4
    have hr : growF s b y m = growG s y m.toNat b := by unfold growF; rw [if_neg (by omega)]
    rw [hr]
    obtain ⟨n, rfl⟩ : ∃ n : Nat, m = n := ⟨m.toNat, by omega⟩
    rw [Int.toNat_natCast]
    have Hn := hid (show n ≤ 20 by omega)
    have Hy0 := hid (show 0 ≤ y by omega); have Hy1 := hid (show y ≤ 1000000000 by omega)
    clear hr q1 q2 q3 q4
    go_enter Tryd.func33, Tryd.ntmps33
    go_wp2_with (first
                        | ((go_at_call 85; (with_reducible refine (sclone_all _ b _ _ (Hb.out.up (by (repeat (first | (with_reducible exact Up.refl _) | (with_reducible assumption) | (with_reducible refine Up.alloc ?_ _) | (with_reducible refine Up.drew ?_) | ((with_reducible refine Up.set ?_ ?_ _); rotate_left; focus (first | omega | (simp; done) | (simp; omega))) | (with_reducible refine Up.drewN ?_ _) | (with_reducible refine Up.call ?_ (by with_reducible assumption)))))) Hbl.out).mono ?_); rintro e w1 ⟨x1, v1, rfl, rfl, ⟨A1, c1, rfl, hrd1, hc1⟩, hb1⟩ <;> (have Hrd1 := hid hrd1; have Hc1 := hid hc1; clear hrd1 hc1)) <;> (have hle := Up.le hb1; (try simp only [World.size_alloc, World.size_setCell, World.size_drew, World.heap_drewN] at hle); (try (have _ : w.heap.size < w1.heap.size := (by omega); (try (apply fk hb1 (w.heap.size); (focus (go_simp; rfl)); (focus (intro o; go_simp)); intro z; (try clear f_0); have f_0 := z; clear z)); (try (apply ck hb1 (w.heap.size) 0; (focus (go_simp; rfl)); intro z; (try clear c_0_0); have c_0_0 := z; clear z; (try (apply ck hb1 (w.heap.size) 1; (focus (go_simp; rfl)); intro z; (try clear c_0_1); have c_0_1 := z; clear z)))); (try (have _ : w.heap.size + 1 < w1.heap.size := (by omega); (try (apply fk hb1 (w.heap.size + 1); (focus (go_simp; rfl)); (focus (intro o; go_simp)); intro z; (try clear f_1); have f_1 := z; clear z)); (try (apply ck hb1 (w.heap.size + 1) 0; (focus (go_simp; rfl)); intro z; (try clear c_1_0); have c_1_0 := z; clear z; (try (apply ck hb1 (w.heap.size + 1) 1; (focus (go_simp; rfl)); intro z; (try clear c_1_1); have c_1_1 := z; clear z)))))))); clear hle; (try (apply old_keep (w0 := w) (w := w1); (focus ((repeat (first | (with_reducible exact Up.refl _) | (with_reducible assumption) | (with_reducible refine Up.alloc ?_ _) | (with_reducible refine Up.drew ?_) | ((with_reducible refine Up.set ?_ ?_ _); rotate_left; focus (first | omega | (simp; done) | (simp; omega))) | (with_reducible refine Up.drewN ?_ _) | (with_reducible refine Up.call ?_ (by with_reducible assumption)))))); intro y z; (try clear hUp); (try clear hOld); have hUp := y; have hOld := z; clear y z)))))
    have HU1 := hid (show Up w w1 by (repeat (first | (with_reducible exact Up.refl _) | (with_reducible assumption) | (with_reducible refine Up.alloc ?_ _) | (with_reducible refine Up.drew ?_) | ((with_reducible refine Up.set ?_ ?_ _); rotate_left; focus (first | omega | (simp; done) | (simp; omega))) | (with_reducible refine Up.drewN ?_ _) | (with_reducible refine Up.call ?_ (by with_reducible assumption)))))
    have C0 : Cf w1 w.heap.size 0 (.slice A s.next.length c) := ⟨by go_simp, by go_simp⟩
    have C1 : Cf w1 w.heap.size 1 (.slice B s.push.length d) := ⟨by go_simp, by go_simp⟩
    go_loopw [1, 32] (fun v i wr => ∃ (k : Nat) (cb : List Sp) (Ac : Option Addr) (cc : Nat), k ≤ n ∧ i = .int .i64 k ∧ v = .slice Ac cb.length cc ∧ Hid (growG s y n b = growG s y (n - k) cb) ∧ Hid (RdS wr Ac cb) ∧ Hid (cb.length ≤ cc) ∧ Up w1 wr ∧
      (Cf wr w.heap.size 0 (.slice A s.next.length c) ∧ Cf wr w.heap.size 1 (.slice B s.push.length d))) (fun _ i _ => n - (intOf i).toNat)
    case atStart => exact ⟨0, b, _, _, by omega, rfl, rfl, rfl, Hrd1.out, Hc1.out, Up.refl _, C0, C1⟩
    case round =>
      clear C0 C1
      obtain ⟨k, cb, Ac, cc, hk, rfl, rfl, H, Hcb, Hcc, hU, ⟨c0, g0⟩, ⟨c1', g1⟩⟩ := hrel
      have gr := (bcell hU).1
      have hle := hU.le
      have l0 := World.block_lt_of_cell? wr _ c0
      dsimp only at l0
      have HUw := hid (HU1.out.call hU)
      by_cases hlt : k < n
      · have Hlt := hid hlt
        have Hnk := hid (show n - k = (n - (k + 1)) + 1 by omega)
        have hdk : decide ((k : Int) < (n : Int)) = true := by simp; omega
        have hk0 : (0 : Int) ≤ (k : Int) := by omega
        have hk9 : (k : Int) < 20 := by have := Hn.out; omega
        clear gr hlt
        cases hof : ofF s cb with
        | error e0 =>
          have Hof := hid hof; clear hof
          go_wp2_with (first
                        | ((go_at_call 26; refine (of_any _ _ _ s cb _ _ _ _ (HY.out.up (HUw.out.call (by (repeat (first | (with_reducible exact Up.refl _) | (with_reducible assumption) | (with_reducible refine Up.alloc ?_ _) | (with_reducible refine Up.drew ?_) | ((with_reducible refine Up.set ?_ ?_ _); rotate_left; focus (first | omega | (simp; done) | (simp; omega))) | (with_reducible refine Up.drewN ?_ _) | (with_reducible refine Up.call ?_ (by with_reducible assumption))))))) (Hcb.out.up (by (repeat (first | (with_reducible exact Up.refl _) | (with_reducible assumption) | (with_reducible refine Up.alloc ?_ _) | (with_reducible refine Up.drew ?_) | ((with_reducible refine Up.set ?_ ?_ _); rotate_left; focus (first | omega | (simp; done) | (simp; omega))) | (with_reducible refine Up.drewN ?_ _) | (with_reducible refine Up.call ?_ (by with_reducible assumption))))))).mono ?_; rintro e w4 ⟨x4, v4, hx4, rfl, hv4, hb4⟩); rw [Hof.out] at hx4; subst hx4; obtain rfl := slNE_error hv4; clear hv4))
          go_ret2
          refine RetR.mk (.error e0) (HUw.out.call (by (repeat (first | (with_reducible exact Up.refl _) | (with_reducible assumption) | (with_reducible refine Up.alloc ?_ _) | (with_reducible refine Up.drew ?_) | ((with_reducible refine Up.set ?_ ?_ _); rotate_left; focus (first | omega | (simp; done) | (simp; omega))) | (with_reducible refine Up.drewN ?_ _) | (with_reducible refine Up.call ?_ (by with_reducible assumption)))))) ?_ (rel := slE) rfl
          rw [H.out, Hnk.out]; exact growG_bad1 Hof.out
        | ok x =>
          obtain ⟨hxl, hb3, hbt, hxt⟩ := of_facts hof
          have Hxl := hid hxl; have Hb3 := hid hb3; have Hbt := hid hbt; have Hxt := hid hxt
          have Hof := hid hof; clear hof hxl hb3 hbt hxt
          cases hin : inF x cb with
          | true =>
            have Hin := hid hin; clear hin
            go_wp2_with (first
                        | ((go_at_call 26; refine (of_any _ _ _ s cb _ _ _ _ (HY.out.up (HUw.out.call (by (repeat (first | (with_reducible exact Up.refl _) | (with_reducible assumption) | (with_reducible refine Up.alloc ?_ _) | (with_reducible refine Up.drew ?_) | ((with_reducible refine Up.set ?_ ?_ _); rotate_left; focus (first | omega | (simp; done) | (simp; omega))) | (with_reducible refine Up.drewN ?_ _) | (with_reducible refine Up.call ?_ (by with_reducible assumption))))))) (Hcb.out.up (by (repeat (first | (with_reducible exact Up.refl _) | (with_reducible assumption) | (with_reducible refine Up.alloc ?_ _) | (with_reducible refine Up.drew ?_) | ((with_reducible refine Up.set ?_ ?_ _); rotate_left; focus (first | omega | (simp; done) | (simp; omega))) | (with_reducible refine Up.drewN ?_ _) | (with_reducible refine Up.call ?_ (by with_reducible assumption))))))).mono ?_; rintro e w4 ⟨x4, v4, hx4, rfl, hv4, hb4⟩); rw [Hof.out] at hx4; subst hx4; obtain ⟨A4, c4, rfl, hrd4, hc4, -⟩ := slNE_ok hv4; have Hrd4 := hid hrd4; clear hv4 hrd4; obtain ⟨hd4, hf4⟩ := bcell hb4)
                        | ((go_at_call 84; refine (in_any _ _ x cb _ _ _ (Hrd4.out.up (by (repeat (first | (with_reducible exact Up.refl _) | (with_reducible assumption) | (with_reducible refine Up.alloc ?_ _) | (with_reducible refine Up.drew ?_) | ((with_reducible refine Up.set ?_ ?_ _); rotate_left; focus (first | omega | (simp; done) | (simp; omega))) | (with_reducible refine Up.drewN ?_ _) | (with_reducible refine Up.call ?_ (by with_reducible assumption)))))) (Hcb.out.up (by (repeat (first | (with_reducible exact Up.refl _) | (with_reducible assumption) | (with_reducible refine Up.alloc ?_ _) | (with_reducible refine Up.drew ?_) | ((with_reducible refine Up.set ?_ ?_ _); rotate_left; focus (first | omega | (simp; done) | (simp; omega))) | (with_reducible refine Up.drewN ?_ _) | (with_reducible refine Up.call ?_ (by with_reducible assumption)))))) Hxl.out (by have := Hxl.out; have := Hb3.out; omega)).mono ?_; rintro e w5 ⟨x5, hx5, rfl, hb5⟩); rw [Hin.out] at hx5; subst hx5))
            go_ret2
            have hU5 : Up wr w5 := by (repeat (first | (with_reducible exact Up.refl _) | (with_reducible assumption) | (with_reducible refine Up.alloc ?_ _) | (with_reducible refine Up.drew ?_) | ((with_reducible refine Up.set ?_ ?_ _); rotate_left; focus (first | omega | (simp; done) | (simp; omega))) | (with_reducible refine Up.drewN ?_ _) | (with_reducible refine Up.call ?_ (by with_reducible assumption))))
            refine RetR.mk (.ok cb) (HUw.out.call hU5) ?_ (rel := slE) ⟨Ac, cc, rfl, Hcb.out.up hU5, Hcc.out⟩
            rw [H.out, Hnk.out]; exact growG_in Hof.out Hin.out
          | false =>
            have Hin := hid hin; clear hin
            have HBR := hid (both_rt cb x Hbt.out Hxt.out)
            have HBL := hid (show (bbothF cb x).length ≤ 3 by rw [bbothF_len Hxl.out.symm]; exact Hb3.out)
            cases hwd : widerF y (bbothF cb x) with
            | error e0 =>
              have Hwd := hid hwd; clear hwd
              go_wp2_with (first
                        | ((go_at_call 26; refine (of_any _ _ _ s cb _ _ _ _ (HY.out.up (HUw.out.call (by (repeat (first | (with_reducible exact Up.refl _) | (with_reducible assumption) | (with_reducible refine Up.alloc ?_ _) | (with_reducible refine Up.drew ?_) | ((with_reducible refine Up.set ?_ ?_ _); rotate_left; focus (first | omega | (simp; done) | (simp; omega))) | (with_reducible refine Up.drewN ?_ _) | (with_reducible refine Up.call ?_ (by with_reducible assumption))))))) (Hcb.out.up (by (repeat (first | (with_reducible exact Up.refl _) | (with_reducible assumption) | (with_reducible refine Up.alloc ?_ _) | (with_reducible refine Up.drew ?_) | ((with_reducible refine Up.set ?_ ?_ _); rotate_left; focus (first | omega | (simp; done) | (simp; omega))) | (with_reducible refine Up.drewN ?_ _) | (with_reducible refine Up.call ?_ (by with_reducible assumption))))))).mono ?_; rintro e w4 ⟨x4, v4, hx4, rfl, hv4, hb4⟩); rw [Hof.out] at hx4; subst hx4; obtain ⟨A4, c4, rfl, hrd4, hc4, -⟩ := slNE_ok hv4; have Hrd4 := hid hrd4; clear hv4 hrd4; obtain ⟨hd4, hf4⟩ := bcell hb4)
                        | ((go_at_call 84; refine (in_any _ _ x cb _ _ _ (Hrd4.out.up (by (repeat (first | (with_reducible exact Up.refl _) | (with_reducible assumption) | (with_reducible refine Up.alloc ?_ _) | (with_reducible refine Up.drew ?_) | ((with_reducible refine Up.set ?_ ?_ _); rotate_left; focus (first | omega | (simp; done) | (simp; omega))) | (with_reducible refine Up.drewN ?_ _) | (with_reducible refine Up.call ?_ (by with_reducible assumption)))))) (Hcb.out.up (by (repeat (first | (with_reducible exact Up.refl _) | (with_reducible assumption) | (with_reducible refine Up.alloc ?_ _) | (with_reducible refine Up.drew ?_) | ((with_reducible refine Up.set ?_ ?_ _); rotate_left; focus (first | omega | (simp; done) | (simp; omega))) | (with_reducible refine Up.drewN ?_ _) | (with_reducible refine Up.call ?_ (by with_reducible assumption)))))) Hxl.out (by have := Hxl.out; have := Hb3.out; omega)).mono ?_; rintro e w5 ⟨x5, hx5, rfl, hb5⟩); rw [Hin.out] at hx5; subst hx5)
                        | ((go_at_call 74; refine (bboth_any _ _ cb x _ _ _ (Hcb.out.up (by (repeat (first | (with_reducible exact Up.refl _) | (with_reducible assumption) | (with_reducible refine Up.alloc ?_ _) | (with_reducible refine Up.drew ?_) | ((with_reducible refine Up.set ?_ ?_ _); rotate_left; focus (first | omega | (simp; done) | (simp; omega))) | (with_reducible refine Up.drewN ?_ _) | (with_reducible refine Up.call ?_ (by with_reducible assumption)))))) (Hrd4.out.up (by (repeat (first | (with_reducible exact Up.refl _) | (with_reducible assumption) | (with_reducible refine Up.alloc ?_ _) | (with_reducible refine Up.drew ?_) | ((with_reducible refine Up.set ?_ ?_ _); rotate_left; focus (first | omega | (simp; done) | (simp; omega))) | (with_reducible refine Up.drewN ?_ _) | (with_reducible refine Up.call ?_ (by with_reducible assumption)))))) Hxl.out.symm (by have := Hb3.out; omega)).mono ?_; rintro e w6 ⟨x6, v6, rfl, rfl, ⟨A6, c6, rfl, hrd6, hc6⟩, hb6⟩); have Hrd6 := hid hrd6; clear hrd6)
                        | ((go_at_call 86; refine (wider_any _ (bbothF cb x) _ y _ (Hrd6.out.up (by (repeat (first | (with_reducible exact Up.refl _) | (with_reducible assumption) | (with_reducible refine Up.alloc ?_ _) | (with_reducible refine Up.drew ?_) | ((with_reducible refine Up.set ?_ ?_ _); rotate_left; focus (first | omega | (simp; done) | (simp; omega))) | (with_reducible refine Up.drewN ?_ _) | (with_reducible refine Up.call ?_ (by with_reducible assumption)))))) HBR.out (by have := HBL.out; omega) Hy0.out Hy1.out).mono ?_; rintro e w7 ⟨x7, v7, hx7, rfl, hv7, hb7⟩); rw [Hwd.out] at hx7; subst hx7; obtain rfl := slNE_error hv7; clear hv7))
              go_ret2
              have hU7 : Up wr w7 := by (repeat (first | (with_reducible exact Up.refl _) | (with_reducible assumption) | (with_reducible refine Up.alloc ?_ _) | (with_reducible refine Up.drew ?_) | ((with_reducible refine Up.set ?_ ?_ _); rotate_left; focus (first | omega | (simp; done) | (simp; omega))) | (with_reducible refine Up.drewN ?_ _) | (with_reducible refine Up.call ?_ (by with_reducible assumption))))
              refine RetR.mk (.error e0) (HUw.out.call hU7) ?_ (rel := slE) rfl
              rw [H.out, Hnk.out]; exact growG_bad2 Hof.out Hin.out Hwd.out
            | ok nb =>
              have Hwd := hid hwd; clear hwd
              go_wp2_with (first
                        | ((go_at_call 26; refine (of_any _ _ _ s cb _ _ _ _ (HY.out.up (HUw.out.call (by (repeat (first | (with_reducible exact Up.refl _) | (with_reducible assumption) | (with_reducible refine Up.alloc ?_ _) | (with_reducible refine Up.drew ?_) | ((with_reducible refine Up.set ?_ ?_ _); rotate_left; focus (first | omega | (simp; done) | (simp; omega))) | (with_reducible refine Up.drewN ?_ _) | (with_reducible refine Up.call ?_ (by with_reducible assumption))))))) (Hcb.out.up (by (repeat (first | (with_reducible exact Up.refl _) | (with_reducible assumption) | (with_reducible refine Up.alloc ?_ _) | (with_reducible refine Up.drew ?_) | ((with_reducible refine Up.set ?_ ?_ _); rotate_left; focus (first | omega | (simp; done) | (simp; omega))) | (with_reducible refine Up.drewN ?_ _) | (with_reducible refine Up.call ?_ (by with_reducible assumption))))))).mono ?_; rintro e w4 ⟨x4, v4, hx4, rfl, hv4, hb4⟩); rw [Hof.out] at hx4; subst hx4; obtain ⟨A4, c4, rfl, hrd4, hc4, -⟩ := slNE_ok hv4; have Hrd4 := hid hrd4; clear hv4 hrd4; obtain ⟨hd4, hf4⟩ := bcell hb4)
                        | ((go_at_call 84; refine (in_any _ _ x cb _ _ _ (Hrd4.out.up (by (repeat (first | (with_reducible exact Up.refl _) | (with_reducible assumption) | (with_reducible refine Up.alloc ?_ _) | (with_reducible refine Up.drew ?_) | ((with_reducible refine Up.set ?_ ?_ _); rotate_left; focus (first | omega | (simp; done) | (simp; omega))) | (with_reducible refine Up.drewN ?_ _) | (with_reducible refine Up.call ?_ (by with_reducible assumption)))))) (Hcb.out.up (by (repeat (first | (with_reducible exact Up.refl _) | (with_reducible assumption) | (with_reducible refine Up.alloc ?_ _) | (with_reducible refine Up.drew ?_) | ((with_reducible refine Up.set ?_ ?_ _); rotate_left; focus (first | omega | (simp; done) | (simp; omega))) | (with_reducible refine Up.drewN ?_ _) | (with_reducible refine Up.call ?_ (by with_reducible assumption)))))) Hxl.out (by have := Hxl.out; have := Hb3.out; omega)).mono ?_; rintro e w5 ⟨x5, hx5, rfl, hb5⟩); rw [Hin.out] at hx5; subst hx5)
                        | ((go_at_call 74; refine (bboth_any _ _ cb x _ _ _ (Hcb.out.up (by (repeat (first | (with_reducible exact Up.refl _) | (with_reducible assumption) | (with_reducible refine Up.alloc ?_ _) | (with_reducible refine Up.drew ?_) | ((with_reducible refine Up.set ?_ ?_ _); rotate_left; focus (first | omega | (simp; done) | (simp; omega))) | (with_reducible refine Up.drewN ?_ _) | (with_reducible refine Up.call ?_ (by with_reducible assumption)))))) (Hrd4.out.up (by (repeat (first | (with_reducible exact Up.refl _) | (with_reducible assumption) | (with_reducible refine Up.alloc ?_ _) | (with_reducible refine Up.drew ?_) | ((with_reducible refine Up.set ?_ ?_ _); rotate_left; focus (first | omega | (simp; done) | (simp; omega))) | (with_reducible refine Up.drewN ?_ _) | (with_reducible refine Up.call ?_ (by with_reducible assumption)))))) Hxl.out.symm (by have := Hb3.out; omega)).mono ?_; rintro e w6 ⟨x6, v6, rfl, rfl, ⟨A6, c6, rfl, hrd6, hc6⟩, hb6⟩); have Hrd6 := hid hrd6; clear hrd6)
                        | ((go_at_call 86; refine (wider_any _ (bbothF cb x) _ y _ (Hrd6.out.up (by (repeat (first | (with_reducible exact Up.refl _) | (with_reducible assumption) | (with_reducible refine Up.alloc ?_ _) | (with_reducible refine Up.drew ?_) | ((with_reducible refine Up.set ?_ ?_ _); rotate_left; focus (first | omega | (simp; done) | (simp; omega))) | (with_reducible refine Up.drewN ?_ _) | (with_reducible refine Up.call ?_ (by with_reducible assumption)))))) HBR.out (by have := HBL.out; omega) Hy0.out Hy1.out).mono ?_; rintro e w7 ⟨x7, v7, hx7, rfl, hv7, hb7⟩); rw [Hwd.out] at hx7; subst hx7; obtain ⟨A7, c7, rfl, hrd7, hc7, -⟩ := slNE_ok hv7; have Hrd7 := hid hrd7; have Hc7 := hid hc7; clear hv7 hrd7 hc7))
              have HU7 := hid (show Up wr w7 by (repeat (first | (with_reducible exact Up.refl _) | (with_reducible assumption) | (with_reducible refine Up.alloc ?_ _) | (with_reducible refine Up.drew ?_) | ((with_reducible refine Up.set ?_ ?_ _); rotate_left; focus (first | omega | (simp; done) | (simp; omega))) | (with_reducible refine Up.drewN ?_ _) | (with_reducible refine Up.call ?_ (by with_reducible assumption)))))
              go_roundw
              case rel =>
                refine ⟨k + 1, nb, A7, c7, by have := Hlt.out; omega, by go_num, rfl, ?_, Hrd7.out, Hc7.out, hU.call HU7.out, Cf.up ⟨c0, g0⟩ HU7.out, Cf.up ⟨c1', g1⟩ HU7.out⟩
                show _ = _
                rw [H.out, Hnk.out]; exact growG_go Hof.out Hin.out Hwd.out
              case measure => have := Hlt.out; simp [intOf]; omega
      · obtain rfl : k = n := by omega
        have Hfin := hid (show growG s y k b = growG s y 0 cb by rw [H.out, Nat.sub_self])
        clear gr H
        cases his : isF s cb with
        | error e0 =>
          have His := hid his; clear his
          go_wp2_with (first
                        | ((go_at_call 31; refine (his_any _ _ _ s cb _ _ _ _ (HY.out.up (HUw.out.call (by (repeat (first | (with_reducible exact Up.refl _) | (with_reducible assumption) | (with_reducible refine Up.alloc ?_ _) | (with_reducible refine Up.drew ?_) | ((with_reducible refine Up.set ?_ ?_ _); rotate_left; focus (first | omega | (simp; done) | (simp; omega))) | (with_reducible refine Up.drewN ?_ _) | (with_reducible refine Up.call ?_ (by with_reducible assumption))))))) (Hcb.out.up (by (repeat (first | (with_reducible exact Up.refl _) | (with_reducible assumption) | (with_reducible refine Up.alloc ?_ _) | (with_reducible refine Up.drew ?_) | ((with_reducible refine Up.set ?_ ?_ _); rotate_left; focus (first | omega | (simp; done) | (simp; omega))) | (with_reducible refine Up.drewN ?_ _) | (with_reducible refine Up.call ?_ (by with_reducible assumption))))))).mono ?_; rintro e w4 ⟨x4, hx4, rfl, hb4⟩); rw [His.out] at hx4; subst hx4))
          go_ret2
          refine RetR.mk (.error e0) (HUw.out.call (by (repeat (first | (with_reducible exact Up.refl _) | (with_reducible assumption) | (with_reducible refine Up.alloc ?_ _) | (with_reducible refine Up.drew ?_) | ((with_reducible refine Up.set ?_ ?_ _); rotate_left; focus (first | omega | (simp; done) | (simp; omega))) | (with_reducible refine Up.drewN ?_ _) | (with_reducible refine Up.call ?_ (by with_reducible assumption)))))) ?_ (rel := slE) rfl
          rw [Hfin.out]; unfold growG; rw [His.out]
        | ok v =>
          cases v with
          | true =>
            have His := hid his; clear his
            go_wp2_with (first
                        | ((go_at_call 31; refine (his_any _ _ _ s cb _ _ _ _ (HY.out.up (HUw.out.call (by (repeat (first | (with_reducible exact Up.refl _) | (with_reducible assumption) | (with_reducible refine Up.alloc ?_ _) | (with_reducible refine Up.drew ?_) | ((with_reducible refine Up.set ?_ ?_ _); rotate_left; focus (first | omega | (simp; done) | (simp; omega))) | (with_reducible refine Up.drewN ?_ _) | (with_reducible refine Up.call ?_ (by with_reducible assumption))))))) (Hcb.out.up (by (repeat (first | (with_reducible exact Up.refl _) | (with_reducible assumption) | (with_reducible refine Up.alloc ?_ _) | (with_reducible refine Up.drew ?_) | ((with_reducible refine Up.set ?_ ?_ _); rotate_left; focus (first | omega | (simp; done) | (simp; omega))) | (with_reducible refine Up.drewN ?_ _) | (with_reducible refine Up.call ?_ (by with_reducible assumption))))))).mono ?_; rintro e w4 ⟨x4, hx4, rfl, hb4⟩); rw [His.out] at hx4; subst hx4))
            go_ret2
            have hU4 : Up wr w4 := by (repeat (first | (with_reducible exact Up.refl _) | (with_reducible assumption) | (with_reducible refine Up.alloc ?_ _) | (with_reducible refine Up.drew ?_) | ((with_reducible refine Up.set ?_ ?_ _); rotate_left; focus (first | omega | (simp; done) | (simp; omega))) | (with_reducible refine Up.drewN ?_ _) | (with_reducible refine Up.call ?_ (by with_reducible assumption))))
            refine RetR.mk (.ok cb) (HUw.out.call hU4) ?_ (rel := slE) ⟨Ac, cc, rfl, Hcb.out.up hU4, Hcc.out⟩
            rw [Hfin.out]; unfold growG; rw [His.out]
          | false =>
            have His := hid his; clear his
            go_wp2_with (first
                        | ((go_at_call 31; refine (his_any _ _ _ s cb _ _ _ _ (HY.out.up (HUw.out.call (by (repeat (first | (with_reducible exact Up.refl _) | (with_reducible assumption) | (with_reducible refine Up.alloc ?_ _) | (with_reducible refine Up.drew ?_) | ((with_reducible refine Up.set ?_ ?_ _); rotate_left; focus (first | omega | (simp; done) | (simp; omega))) | (with_reducible refine Up.drewN ?_ _) | (with_reducible refine Up.call ?_ (by with_reducible assumption))))))) (Hcb.out.up (by (repeat (first | (with_reducible exact Up.refl _) | (with_reducible assumption) | (with_reducible refine Up.alloc ?_ _) | (with_reducible refine Up.drew ?_) | ((with_reducible refine Up.set ?_ ?_ _); rotate_left; focus (first | omega | (simp; done) | (simp; omega))) | (with_reducible refine Up.drewN ?_ _) | (with_reducible refine Up.call ?_ (by with_reducible assumption))))))).mono ?_; rintro e w4 ⟨x4, hx4, rfl, hb4⟩); rw [His.out] at hx4; subst hx4))
            go_ret2
            refine RetR.mk (.error 5) (HUw.out.call (by (repeat (first | (with_reducible exact Up.refl _) | (with_reducible assumption) | (with_reducible refine Up.alloc ?_ _) | (with_reducible refine Up.drew ?_) | ((with_reducible refine Up.set ?_ ?_ _); rotate_left; focus (first | omega | (simp; done) | (simp; omega))) | (with_reducible refine Up.drewN ?_ _) | (with_reducible refine Up.call ?_ (by with_reducible assumption)))))) ?_ (rel := slE) rfl
            rw [Hfin.out]; unfold growG; rw [His.out]
  all_goals
    have hr : growF s b y m = .error 1 := by unfold growF; rw [if_pos (by simp at *; omega)]
    rw [hr]
    clear hr
    go_enter Tryd.func33, Tryd.ntmps33
    go_wp2
    go_ret2
    refine RetR.mk (.error 1) ?_ rfl (rel := slE) rfl
    (repeat (first | (with_reducible exact Up.refl _) | (with_reducible assumption) | (with_reducible refine Up.alloc ?_ _) | (with_reducible refine Up.drew ?_) | ((with_reducible refine Up.set ?_ ?_ _); rotate_left; focus (first | omega | (simp; done) | (simp; omega))) | (with_reducible refine Up.drewN ?_ _) | (with_reducible refine Up.call ?_ (by with_reducible assumption))))
end Go.Proofs.YteoomjenekkomaaDoor
