/- The walk of the reference's Run. -/
import Derived.Test.YteoomjenekkomaaDoorRfyb
import Derived.Test.YteoomjenekkomaaDoorFlow

set_option linter.unusedVariables false
set_option linter.unusedSimpArgs false
namespace Go.Proofs.YteoomjenekkomaaDoor
open Go.RowKit

/-- A slice of slices, with a number. -/
def rlNm {α : Type} (R : World → Option Addr → List α → Prop) (w : World) : Except Nat (List (List α)) → Value → Prop
  | .ok l, v => ∃ A c, v = .tuple #[.slice A l.length c, .int .i64 0] ∧ RdR R w A l ∧ l.length ≤ c
  | .error n, v => v = .tuple #[.slice none 0 0, .int .i64 n]
theorem rlNm_ok {α : Type} {R : World → Option Addr → List α → Prop} {w : World} {l : List (List α)} {v : Value} (h : rlNm R w (.ok l) v) : ∃ A c, v = .tuple #[.slice A l.length c, .int .i64 0] ∧ RdR R w A l ∧ l.length ≤ c := h
theorem rlNm_error {α : Type} {R : World → Option Addr → List α → Prop} {w : World} {n : Nat} {v : Value} (h : rlNm R w (.error n) v) : v = .tuple #[.slice none 0 0, .int .i64 n] := h
theorem nextG_four {b : List Sp} : ∀ (fs : List (List Tm)) (qs : List Sp) (e : Nat), nextG b fs qs = .error e → e = 4
  | [], _, e, h => by cases h
  | _ :: _, [], e, h => by cases h
  | f :: fs, q :: qs, e, h => by
    unfold nextG at h
    split at h
    · rename_i h1; injection h with h; subst h; exact fover_num _ _ _ h1
    · split at h
      · rename_i h1; injection h with h; subst h; exact sum_err h1
      · split at h
        · rename_i h1; injection h with h; subst h; exact nextG_four fs qs _ h1
        · cases h
theorem runG_num {s : Sy} : ∀ (n : Nat) (b : List Sp) (e : Nat), runG s n b = .error e → e = 4
  | 0, b, e, h => by cases h
  | n + 1, b, e, h => by
    unfold runG at h
    split at h
    · rename_i h1; injection h with h; subst h; exact nextG_four _ _ _ h1
    · split at h
      · rename_i h1; injection h with h; subst h; exact runG_num n _ _ h1
      · cases h
theorem run_num {s : Sy} {b : List Sp} {n : Int} {e : Nat} (h : runF s b n = .error e) : e = 5 ∨ e = 4 ∨ e = 1 ∨ e = 3 := by
  rcases run_cases s b n with ⟨-, h2⟩ | ⟨-, -, ⟨k, h1, h2⟩ | ⟨-, -, -, -, h2⟩⟩
  · rw [h2] at h; injection h with h; omega
  · rw [h2] at h; injection h with h; subst h; exact ready_num h1
  · rw [h2, preB_nil] at h; have := runG_num _ _ _ h; omega
set_option maxRecDepth 100000 in
set_option maxHeartbeats 4000000 in
theorem rrun_any (A B C : Option Addr) (s : Sy) (b : List Sp) (n : Int) (c d e : Nat) (w : World) (hY : RY w A B s) (hb : RdS w C b) (hcb : b.length ≤ e) :
    Calls Tryd.prog 34 #[.agg #[.slice A s.next.length c, .slice B s.push.length d], .slice C b.length e, .int .i64 n] w (RetR (rlNm RdS) (runF s b n) w) := by
  have HY := hid hY; have Hb := hid hb; have Hcb := hid hcb; clear hY hb hcb
  rcases run_cases s b n with ⟨hn, hr⟩ | ⟨hn1, hn2, ⟨e0, hrd, hr⟩ | ⟨hrd, hs, hB, hl, hr⟩⟩
  · have hor : (decide (n < 0) = true) ∨ (decide (n < 0) = false ∧ decide (20 < n) = true) := by
      by_cases h : n < 0
      · exact .inl (decide_eq_true h)
      · exact .inr ⟨decide_eq_false h, decide_eq_true (by omega)⟩
    rw [hr]
    clear hn hr
    rcases hor with e1 | ⟨e1, e2⟩
    all_goals
      go_enter Tryd.func34, Tryd.ntmps34
      go_wp2
      go_ret2
      refine RetR.mk (.error 1) ?_ rfl (rel := rlNm _) rfl
      (repeat (first | (with_reducible exact Up.refl _) | (with_reducible assumption) | (with_reducible refine Up.alloc ?_ _) | (with_reducible refine Up.drew ?_) | ((with_reducible refine Up.set ?_ ?_ _); rotate_left; focus (first | omega | (simp; done) | (simp; omega))) | (with_reducible refine Up.drewN ?_ _) | (with_reducible refine Up.call ?_ (by with_reducible assumption))))
  · have e1 : decide (n < 0) = false := decide_eq_false (by omega)
    have e2 : decide (20 < n) = false := decide_eq_false (by omega)
    rw [hr]
    have q0 : ((e0 : Int) != 0) = true := by have := ready_num hrd; simp; omega
    have Hrd := hid hrd
    clear hrd hr hn1 hn2
    go_enter Tryd.func34, Tryd.ntmps34
    go_wp2_with (first
      | ((go_at_call 25; (with_reducible refine (rready_any _ _ _ s b _ _ _ _ (HY.out.up (by (repeat (first | (with_reducible exact Up.refl _) | (with_reducible assumption) | (with_reducible refine Up.alloc ?_ _) | (with_reducible refine Up.drew ?_) | ((with_reducible refine Up.set ?_ ?_ _); rotate_left; focus (first | omega | (simp; done) | (simp; omega))) | (with_reducible refine Up.drewN ?_ _) | (with_reducible refine Up.call ?_ (by with_reducible assumption)))))) (Hb.out.up (by (repeat (first | (with_reducible exact Up.refl _) | (with_reducible assumption) | (with_reducible refine Up.alloc ?_ _) | (with_reducible refine Up.drew ?_) | ((with_reducible refine Up.set ?_ ?_ _); rotate_left; focus (first | omega | (simp; done) | (simp; omega))) | (with_reducible refine Up.drewN ?_ _) | (with_reducible refine Up.call ?_ (by with_reducible assumption))))))).mono ?_); rintro e w1 ⟨x1, hx1, rfl, hb1⟩ <;> (rw [Hrd.out] at hx1; subst hx1)) <;> (have hle := Up.le hb1; (try simp only [World.size_alloc, World.size_setCell, World.size_drew, World.heap_drewN] at hle); (try (have _ : w.heap.size < w1.heap.size := (by omega); (try (apply fk hb1 (w.heap.size); (focus (go_simp; rfl)); (focus (intro o; go_simp)); intro z; (try clear f_0); have f_0 := z; clear z)); (try (apply ck hb1 (w.heap.size) 0; (focus (go_simp; rfl)); intro z; (try clear c_0_0); have c_0_0 := z; clear z; (try (apply ck hb1 (w.heap.size) 1; (focus (go_simp; rfl)); intro z; (try clear c_0_1); have c_0_1 := z; clear z)))); (try (have _ : w.heap.size + 1 < w1.heap.size := (by omega); (try (apply fk hb1 (w.heap.size + 1); (focus (go_simp; rfl)); (focus (intro o; go_simp)); intro z; (try clear f_1); have f_1 := z; clear z)); (try (apply ck hb1 (w.heap.size + 1) 0; (focus (go_simp; rfl)); intro z; (try clear c_1_0); have c_1_0 := z; clear z; (try (apply ck hb1 (w.heap.size + 1) 1; (focus (go_simp; rfl)); intro z; (try clear c_1_1); have c_1_1 := z; clear z)))))))); clear hle; (try (apply old_keep (w0 := w) (w := w1); (focus ((repeat (first | (with_reducible exact Up.refl _) | (with_reducible assumption) | (with_reducible refine Up.alloc ?_ _) | (with_reducible refine Up.drew ?_) | ((with_reducible refine Up.set ?_ ?_ _); rotate_left; focus (first | omega | (simp; done) | (simp; omega))) | (with_reducible refine Up.drewN ?_ _) | (with_reducible refine Up.call ?_ (by with_reducible assumption)))))); intro y z; (try clear hUp); (try clear hOld); have hUp := y; have hOld := z; clear y z)))))
    go_ret2
    refine RetR.mk (.error e0) ?_ rfl (rel := rlNm _) rfl
    (repeat (first | (with_reducible exact Up.refl _) | (with_reducible assumption) | (with_reducible refine Up.alloc ?_ _) | (with_reducible refine Up.drew ?_) | ((with_reducible refine Up.set ?_ ?_ _); rotate_left; focus (first | omega | (simp; done) | (simp; omega))) | (with_reducible refine Up.drewN ?_ _) | (with_reducible refine Up.call ?_ (by with_reducible assumption))))
  · have e1 : decide (n < 0) = false := decide_eq_false (by omega)
    have e2 : decide (20 < n) = false := decide_eq_false (by omega)
    rw [hr]
    obtain ⟨m, rfl⟩ : ∃ m : Nat, n = m := ⟨n.toNat, by omega⟩
    rw [Int.toNat_natCast]
    have Hm := hid (show m ≤ 20 by omega)
    have Hrd := hid hrd; have HS := hid hs; have HB := hid hB; have Hl := hid hl
    obtain ⟨i0, hi0, hz0, hz1, hz2⟩ := info_parts Tryd.infoBox
    obtain ⟨bA, oA, rfl, lA, -⟩ := (Hb.out).at (by have := HB.out.pos; omega)
    clear hrd hr hn1 hn2 hs hB hl
    go_enter Tryd.func34, Tryd.ntmps34
    go_wp2_with (first
      | ((go_at_call 25; (with_reducible refine (rready_any _ _ _ s b _ _ _ _ (HY.out.up (by (repeat (first | (with_reducible exact Up.refl _) | (with_reducible assumption) | (with_reducible refine Up.alloc ?_ _) | (with_reducible refine Up.drew ?_) | ((with_reducible refine Up.set ?_ ?_ _); rotate_left; focus (first | omega | (simp; done) | (simp; omega))) | (with_reducible refine Up.drewN ?_ _) | (with_reducible refine Up.call ?_ (by with_reducible assumption)))))) (Hb.out.up (by (repeat (first | (with_reducible exact Up.refl _) | (with_reducible assumption) | (with_reducible refine Up.alloc ?_ _) | (with_reducible refine Up.drew ?_) | ((with_reducible refine Up.set ?_ ?_ _); rotate_left; focus (first | omega | (simp; done) | (simp; omega))) | (with_reducible refine Up.drewN ?_ _) | (with_reducible refine Up.call ?_ (by with_reducible assumption))))))).mono ?_); rintro e w1 ⟨x1, hx1, rfl, hb1⟩ <;> (rw [Hrd.out] at hx1; subst hx1)) <;> (have hle := Up.le hb1; (try simp only [World.size_alloc, World.size_setCell, World.size_drew, World.heap_drewN] at hle); (try (have _ : w.heap.size < w1.heap.size := (by omega); (try (apply fk hb1 (w.heap.size); (focus (go_simp; rfl)); (focus (intro o; go_simp)); intro z; (try clear f_0); have f_0 := z; clear z)); (try (apply ck hb1 (w.heap.size) 0; (focus (go_simp; rfl)); intro z; (try clear c_0_0); have c_0_0 := z; clear z; (try (apply ck hb1 (w.heap.size) 1; (focus (go_simp; rfl)); intro z; (try clear c_0_1); have c_0_1 := z; clear z)))); (try (have _ : w.heap.size + 1 < w1.heap.size := (by omega); (try (apply fk hb1 (w.heap.size + 1); (focus (go_simp; rfl)); (focus (intro o; go_simp)); intro z; (try clear f_1); have f_1 := z; clear z)); (try (apply ck hb1 (w.heap.size + 1) 0; (focus (go_simp; rfl)); intro z; (try clear c_1_0); have c_1_0 := z; clear z; (try (apply ck hb1 (w.heap.size + 1) 1; (focus (go_simp; rfl)); intro z; (try clear c_1_1); have c_1_1 := z; clear z)))))))); clear hle; (try (apply old_keep (w0 := w) (w := w1); (focus ((repeat (first | (with_reducible exact Up.refl _) | (with_reducible assumption) | (with_reducible refine Up.alloc ?_ _) | (with_reducible refine Up.drew ?_) | ((with_reducible refine Up.set ?_ ?_ _); rotate_left; focus (first | omega | (simp; done) | (simp; omega))) | (with_reducible refine Up.drewN ?_ _) | (with_reducible refine Up.call ?_ (by with_reducible assumption)))))); intro y z; (try clear hUp); (try clear hOld); have hUp := y; have hOld := z; clear y z)))))
    have Hb1 := hid (Hb.out.up (show Up w w1 by (repeat (first | (with_reducible exact Up.refl _) | (with_reducible assumption) | (with_reducible refine Up.alloc ?_ _) | (with_reducible refine Up.drew ?_) | ((with_reducible refine Up.set ?_ ?_ _); rotate_left; focus (first | omega | (simp; done) | (simp; omega))) | (with_reducible refine Up.drewN ?_ _) | (with_reducible refine Up.call ?_ (by with_reducible assumption))))))
    have hle1 := Up.le (show Up w w1 by (repeat (first | (with_reducible exact Up.refl _) | (with_reducible assumption) | (with_reducible refine Up.alloc ?_ _) | (with_reducible refine Up.drew ?_) | ((with_reducible refine Up.set ?_ ?_ _); rotate_left; focus (first | omega | (simp; done) | (simp; omega))) | (with_reducible refine Up.drewN ?_ _) | (with_reducible refine Up.call ?_ (by with_reducible assumption)))))
    have Hown0 := hid (OwnR.one (R := RdS) (T := 23) (base := w.heap.size + 1) RdS.up (by have := Up.le hb1; simp at *; omega) Hb1.out Hcb.out (fun b o e => by injection e with e; injection e with e; omega))
    have Hb0 := hid (Hb1.out.up ((Up.refl w1).alloc (.cells #[.slice (some ⟨bA, oA, none⟩) b.length e] 23)))
    go_loopw [1, 8, 9, 10] (fun bv ev v i wr => ∃ (k : Nat) (L : List (List Sp)) (cb : List Sp) (A3 : Option Addr) (c3 : Nat), k ≤ m ∧ bv = .slice A3 cb.length c3 ∧ ev = .int .i64 0 ∧ i = .int .i64 k ∧ Hid (preB [] (runG s m b) = preB L (runG s (m - k) cb)) ∧ Hid (L.length = k) ∧ Hid (Bx cb) ∧ Hid (RdS wr A3 cb) ∧ Hid (OwnR 23 RdS wr (w.heap.size + 1) v (L ++ [cb])) ∧ Up w wr ∧
      (Cf wr w.heap.size 0 (.slice A s.next.length c) ∧ Cf wr w.heap.size 1 (.slice B s.push.length d))) (fun _ _ _ i _ => m - (intOf i).toNat)
    case atStart =>
      refine ⟨0, [], b, _, e, by omega, rfl, rfl, rfl, rfl, rfl, HB.out, Hb0.out, Hown0.out, ?_, ⟨by go_simp, by go_simp⟩, ⟨by go_simp, by go_simp⟩⟩
      (repeat (first | (with_reducible exact Up.refl _) | (with_reducible assumption) | (with_reducible refine Up.alloc ?_ _) | (with_reducible refine Up.drew ?_) | ((with_reducible refine Up.set ?_ ?_ _); rotate_left; focus (first | omega | (simp; done) | (simp; omega))) | (with_reducible refine Up.drewN ?_ _) | (with_reducible refine Up.call ?_ (by with_reducible assumption))))
    case round =>
      obtain ⟨k, L, cb, A3, c3, hk, rfl, rfl, rfl, H, HL, HBc, Hj3, Hown, hU, C0, C1⟩ := hrel
      have gr := (bcell hU).1
      have hle := hU.le
      obtain ⟨c0, g0⟩ := C0
      obtain ⟨c1, g1⟩ := C1
      have l0 := World.block_lt_of_cell? wr _ c0
      dsimp only at l0
      by_cases hlt : k < m
      · obtain ⟨g, o, N, cap, A4, c4, rfl, hN, hg1, hg2, -, -, -⟩ := Hown.out.last HL.out
        have hdk : decide ((k : Int) < (m : Int)) = true := by simp; omega
        have hk0 : (0 : Int) ≤ (k : Int) := by omega
        have hk9 : (k : Int) < 20 := by have := Hm.out; omega
        have Hlt := hid hlt
        clear gr hlt hN
        cases hnx : nextF s cb with
        | error n2 =>
          obtain rfl := nextG_four _ _ _ hnx
          have Hnx := hid hnx; clear hnx
          go_wp2_with (first
            | ((go_at_call 20; refine (rnext_any _ _ _ s cb _ _ _ _ (HY.out.up (by (repeat (first | (with_reducible exact Up.refl _) | (with_reducible assumption) | (with_reducible refine Up.alloc ?_ _) | (with_reducible refine Up.drew ?_) | ((with_reducible refine Up.set ?_ ?_ _); rotate_left; focus (first | omega | (simp; done) | (simp; omega))) | (with_reducible refine Up.drewN ?_ _) | (with_reducible refine Up.call ?_ (by with_reducible assumption)))))) (Hj3.out.up (by (repeat (first | (with_reducible exact Up.refl _) | (with_reducible assumption) | (with_reducible refine Up.alloc ?_ _) | (with_reducible refine Up.drew ?_) | ((with_reducible refine Up.set ?_ ?_ _); rotate_left; focus (first | omega | (simp; done) | (simp; omega))) | (with_reducible refine Up.drewN ?_ _) | (with_reducible refine Up.call ?_ (by with_reducible assumption)))))) HS.out HBc.out).mono ?_; rintro e w4 ⟨x4, v4, hx4, rfl, hv4, hb4⟩); rw [Hnx.out] at hx4; subst hx4; obtain rfl := slNb_error hv4; clear hv4))
          go_ret2
          refine RetR.mk (.error 4) ?_ ?_ (rel := rlNm _) rfl
          · (repeat (first | (with_reducible exact Up.refl _) | (with_reducible assumption) | (with_reducible refine Up.alloc ?_ _) | (with_reducible refine Up.drew ?_) | ((with_reducible refine Up.set ?_ ?_ _); rotate_left; focus (first | omega | (simp; done) | (simp; omega))) | (with_reducible refine Up.drewN ?_ _) | (with_reducible refine Up.call ?_ (by with_reducible assumption))))
          · have := Hlt.out
            rw [H.out, show m - k = (m - k - 1) + 1 by omega]; exact runG_bad Hnx.out
        | ok nx =>
          have HBn := hid (next_bx HS.out HBc.out hnx).1
          have Hnx := hid hnx; clear hnx
          go_wp2_with (first
            | ((go_at_call 20; refine (rnext_any _ _ _ s cb _ _ _ _ (HY.out.up (by (repeat (first | (with_reducible exact Up.refl _) | (with_reducible assumption) | (with_reducible refine Up.alloc ?_ _) | (with_reducible refine Up.drew ?_) | ((with_reducible refine Up.set ?_ ?_ _); rotate_left; focus (first | omega | (simp; done) | (simp; omega))) | (with_reducible refine Up.drewN ?_ _) | (with_reducible refine Up.call ?_ (by with_reducible assumption)))))) (Hj3.out.up (by (repeat (first | (with_reducible exact Up.refl _) | (with_reducible assumption) | (with_reducible refine Up.alloc ?_ _) | (with_reducible refine Up.drew ?_) | ((with_reducible refine Up.set ?_ ?_ _); rotate_left; focus (first | omega | (simp; done) | (simp; omega))) | (with_reducible refine Up.drewN ?_ _) | (with_reducible refine Up.call ?_ (by with_reducible assumption)))))) HS.out HBc.out).mono ?_; rintro e w4 ⟨x4, v4, hx4, rfl, hv4, hb4⟩); rw [Hnx.out] at hx4; subst hx4; obtain ⟨A5, c5, rfl, hrd5, hc5, hn5⟩ := slNb_ok hv4; have Hrd5 := hid hrd5; have Hc5 := hid hc5; have Hn5 := hid (fun b o e => (show wr.heap.size ≤ b ∧ b < w4.heap.size from ⟨by have := (hn5 b o e).1; (try simp at this); omega, (hn5 b o e).2⟩)); clear hv4 hrd5 hn5 hc5; have hbr : Up wr w4 := (by (repeat (first | (with_reducible exact Up.refl _) | (with_reducible assumption) | (with_reducible refine Up.alloc ?_ _) | (with_reducible refine Up.drew ?_) | ((with_reducible refine Up.set ?_ ?_ _); rotate_left; focus (first | omega | (simp; done) | (simp; omega))) | (with_reducible refine Up.drewN ?_ _) | (with_reducible refine Up.call ?_ (by with_reducible assumption))))); obtain ⟨hc4, hf4⟩ := bcell hbr; clear hbr; have _ : w.heap.size < w4.heap.size := (by have hle := Up.le hb4; first | omega | (simp at hle; omega) | (simp at hle; done)); have UA : Up wr (w4.alloc (Obj.cells #[Value.slice A5 nx.length c5] 23)) := (by (repeat (first | (with_reducible exact Up.refl _) | (with_reducible assumption) | (with_reducible refine Up.alloc ?_ _) | (with_reducible refine Up.drew ?_) | ((with_reducible refine Up.set ?_ ?_ _); rotate_left; focus (first | omega | (simp; done) | (simp; omega))) | (with_reducible refine Up.drewN ?_ _) | (with_reducible refine Up.call ?_ (by with_reducible assumption))))); obtain ⟨vs, p1, p2, p3⟩ := (OwnR.up keepsS Hown.out UA).parts; have UW : Up w (w4.alloc (Obj.cells #[Value.slice A5 nx.length c5] 23)) := (by (repeat (first | (with_reducible exact Up.refl _) | (with_reducible assumption) | (with_reducible refine Up.alloc ?_ _) | (with_reducible refine Up.drew ?_) | ((with_reducible refine Up.set ?_ ?_ _); rotate_left; focus (first | omega | (simp; done) | (simp; omega))) | (with_reducible refine Up.drewN ?_ _) | (with_reducible refine Up.call ?_ (by with_reducible assumption))))); have Hp3 := hid p3; have HUW := hid UW; have HUA := hid UA; clear p3 UW UA)
            | (at_builtin; refine wpList_append_own_at _ rfl (.tmp 39) (.tmp 41) _ rfl (w.heap.size + 1) 23 i0 (.slice none 0 0) 1 24 Tryd.underlying27 hi0 hz0 hz1 hz2 rfl (by decide) _ _ _ rfl p1 ⟨w4.heap.size, 0, none⟩ 1 1 [.slice A5 nx.length c5] rfl rfl (cell_one_new _ _ _) (by simp [Value.oneCell']) (by have := HL.out; have := Hm.out; have := Hlt.out; unfold maxLen; simp; omega) (by have := HL.out; have := Hm.out; have := Hlt.out; simp; omega) (by simp; omega) ?_; intro v8 w5 own8 g8 _ at8))
          have hne : ∀ b : Nat, wr.heap.size ≤ b → (Value.slice (some ⟨g, o, none⟩) N cap).ownBlock ≠ some b := fun b hb e => by injection e with e; dsimp only at e; omega
          have hn0 : (Value.slice (some ⟨g, o, none⟩) N cap).ownBlock ≠ some w.heap.size := fun e => by injection e with e; dsimp only at e; omega
          have Hne := hid hne; have Hn0 := hid hn0
          clear hne hn0
          have C0 : Cf (w4.alloc (Obj.cells #[Value.slice A5 nx.length c5] 23)) w.heap.size 0 (.slice A s.next.length c) := ⟨by go_simp, by go_simp⟩
          have C1 : Cf (w4.alloc (Obj.cells #[Value.slice A5 nx.length c5] 23)) w.heap.size 1 (.slice B s.push.length d) := ⟨by go_simp, by go_simp⟩
          have HC0 := hid C0; have HC1 := hid C1
          clear C0 C1
          go_roundw
          case rel =>
            refine ⟨k + 1, L ++ [cb], nx, A5, c5, by have := Hlt.out; omega, rfl, rfl, by go_num, ?_, ?_, HBn.out, ?_, ?_, ?_, Cf.keep HC0.out g8 Hn0.out, Cf.keep HC1.out g8 Hn0.out⟩
            · show _ = _
              have := Hlt.out
              rw [H.out, show m - k = (m - (k + 1)) + 1 by omega]; exact runG_good Hnx.out
            · have := HL.out
              show _ = _
              simp; omega
            · exact keepsS.grown (Hrd5.out.up ((Up.refl w4).alloc _)) g8 (fun b o e => Hne.out b (Hn5.out b o e).1)
            · exact OwnR.snoc keepsS Hp3.out (Hrd5.out.up ((Up.refl w4).alloc _)) Hc5.out (fun b o e => ⟨by have := (Hn5.out b o e).2; simp; omega, Hne.out b (Hn5.out b o e).1⟩) p2 own8 g8 at8
            · exact Below.grown HUW.out g8 HUW.out.le (fun j hj => by injection hj with hj; dsimp only at hj; omega)
          case measure => have := Hlt.out; simp [intOf]; omega
      · obtain rfl : k = m := by omega
        obtain ⟨A4, c4, rfl, hrd4, hc4⟩ := Hown.out.rd
        have Hrd4 := hid hrd4
        clear gr hrd4
        go_wp2
        go_ret2
        refine RetR.mk (.ok (L ++ [cb])) hU ?_ (rel := rlNm _) ⟨A4, c4, rfl, Hrd4.out, hc4⟩
        rw [H.out, Nat.sub_self]
        simp [runG, preB]

end Go.Proofs.YteoomjenekkomaaDoor
