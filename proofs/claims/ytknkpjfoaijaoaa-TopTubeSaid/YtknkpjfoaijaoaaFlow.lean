/- The walk of flow.Run. -/
import Derived.Test.YtknkpjfoaijaoaaStepc
import Derived.Test.YtknkpjfoaijaoaaClone
import Derived.Test.YtknkpjfoaijaoaaHas

set_option linter.unusedVariables false
set_option linter.unusedSimpArgs false
namespace Go.Proofs.Ytknkpjfoaijaoaa
open Go.RowKit

theorem Try.infoBox : (Try.prog.info? 23).map (fun i => (i.zero, i.size, i.bytes)) = some (some (.slice none 0 0), 1, 24) := by kernel_rfl
def preB {α : Type} (L : List α) : Except Nat (List α) → Except Nat (List α)
  | .error e => .error e
  | .ok l => .ok (L ++ l)
theorem preB_nil {α : Type} (r : Except Nat (List α)) : preB [] r = r := by cases r <;> rfl
theorem runG_bad {s : Sy} {n e : Nat} {b : List Sp} {L : List (List Sp)} (h : nextF s b = .error e) : preB L (runG s (n + 1) b) = .error e := by
  unfold runG; rw [h]; rfl
theorem runG_good {s : Sy} {n : Nat} {b c : List Sp} {L : List (List Sp)} (h : nextF s b = .ok c) : preB L (runG s (n + 1) b) = preB (L ++ [b]) (runG s n c) := by
  conv => lhs; unfold runG
  rw [h]; dsimp only
  cases runG s n c <;> simp [preB]
/-- Why a run is refused, or that it is fine till the steps. -/
theorem run_cases (s : Sy) (b : List Sp) (n : Int) : ((n < 0 ∨ 20 < n) ∧ runF s b n = .error 1) ∨ (0 ≤ n ∧ n ≤ 20 ∧ ((∃ e, readyF s b = some e ∧ runF s b n = .error e) ∨ (readyF s b = none ∧ Good s ∧ Bx b ∧ b.length = s.next.length ∧ runF s b n = preB [] (runG s n.toNat b)))) := by
  unfold runF
  by_cases h : n < 0 ∨ 20 < n
  · rw [if_pos h]; exact .inl ⟨h, rfl⟩
  · rw [if_neg h]
    refine .inr ⟨by omega, by omega, ?_⟩
    cases hr : readyF s b with
    | some e => exact .inl ⟨e, rfl, rfl⟩
    | none =>
      obtain ⟨h1, h2, h3⟩ := ready_good hr
      exact .inr ⟨rfl, h1, h2, h3, (preB_nil _).symm⟩
/-- A row of slices that begins as a literal of one. -/
theorem OwnR.one {α : Type} {T : TypeId} {R : World → Option Addr → List α → Prop} (hR : ∀ {w w' : World} {A : Option Addr} {l : List α}, R w A l → Up w w' → R w' A l) {w : World} {base : Nat} {x : List α} {A : Option Addr} {c : Nat} (hbase : base ≤ w.heap.size)
    (hx : R w A x) (hc : x.length ≤ c) (hb : ∀ b o, A = some ⟨b, o, none⟩ → b < w.heap.size) : OwnR T R (w.alloc (.cells #[.slice A x.length c] T)) base (.slice (some ⟨w.heap.size, 0, none⟩) 1 1) [x] := by
  refine ⟨[.slice A x.length c], World.ownsRow_lit w #[.slice A x.length c] 1 hbase (by decide) rfl, fun k hk => ?_⟩
  obtain rfl : k = 0 := by simpa using hk
  refine ⟨A, c, rfl, hc, hR hx ((Up.refl w).alloc _), fun b o e => ⟨?_, ?_⟩⟩
  · have := hb b o e
    simp; omega
  · have := hb b o e
    intro e2
    injection e2 with e2
    dsimp only at e2
    omega
theorem last_at {α : Type} {L : List (List α)} {x : List α} {k : Nat} (h : L.length = k) : (L ++ [x])[k]?.getD [] = x := by
  subst h; simp
/-- What the row's last one is, to be read at the row's end. -/
theorem OwnR.last {α : Type} {T : TypeId} {R : World → Option Addr → List α → Prop} {w : World} {base k : Nat} {v : Value} {L : List (List α)} {x : List α} (h : OwnR T R w base v (L ++ [x])) (hk : L.length = k) :
    ∃ g o N cap A c, v = .slice (some ⟨g, o, none⟩) N cap ∧ N = k + 1 ∧ base ≤ g ∧ g < w.heap.size ∧ w.cell? ⟨g, o + k, none⟩ = some (.slice A x.length c) ∧ x.length ≤ c ∧ R w A x := by
  obtain ⟨A', c', hv, hrd, hc⟩ := h.rd
  obtain ⟨g, o, rfl, lg, cc⟩ := hrd.at (by simp)
  obtain ⟨A, c, q1, q2, q3⟩ := cc k (by simp; omega)
  rw [last_at hk] at q1 q2 q3
  exact ⟨g, o, _, c', A, c, hv, by simp; omega, (h.lt g (by rw [hv]; rfl)).1, lg, q1, q2, q3⟩
set_option maxRecDepth 100000 in
set_option maxHeartbeats 4000000 in
theorem run_any (A B C : Option Addr) (s : Sy) (b : List Sp) (n : Int) (c d e : Nat) (w : World) (hY : RY w A B s) (hb : RdS w C b) :
    Calls Try.prog 6 #[.agg #[.slice A s.next.length c, .slice B s.push.length d], .slice C b.length e, .int .i64 n] w (RetR (rlNE RdS) (runF s b n) w) := by
  have HY := hid hY; have Hb := hid hb; clear hY hb
  rcases run_cases s b n with ⟨hn, hr⟩ | ⟨hn1, hn2, ⟨e0, hrd, hr⟩ | ⟨hrd, hs, hB, hl, hr⟩⟩
  · have hor : (decide (n < 0) = true) ∨ (decide (n < 0) = false ∧ decide (20 < n) = true) := by
      by_cases h : n < 0
      · exact .inl (decide_eq_true h)
      · exact .inr ⟨decide_eq_false h, decide_eq_true (by omega)⟩
    rw [hr]
    clear hn hr
    rcases hor with e1 | ⟨e1, e2⟩
    all_goals
      go_enter Try.func6, Try.ntmps6
      go_wp2
      go_ret2
      refine RetR.mk (.error 1) ?_ rfl (rel := rlNE _) rfl
      (repeat (first | (with_reducible exact Up.refl _) | (with_reducible assumption) | (with_reducible refine Up.alloc ?_ _) | (with_reducible refine Up.drew ?_) | ((with_reducible refine Up.set ?_ ?_ _); rotate_left; focus (first | omega | (simp; done) | (simp; omega))) | (with_reducible refine Up.drewN ?_ _) | (with_reducible refine Up.call ?_ (by with_reducible assumption))))
  · have e1 : decide (n < 0) = false := decide_eq_false (by omega)
    have e2 : decide (20 < n) = false := decide_eq_false (by omega)
    rw [hr]
    have Hrd := hid hrd
    clear hrd hr hn1 hn2
    go_enter Try.func6, Try.ntmps6
    go_wp2_with (first
                        | ((go_at_call 17; (with_reducible refine (ready_any _ _ _ s b _ _ _ _ (HY.out.up (by (repeat (first | (with_reducible exact Up.refl _) | (with_reducible assumption) | (with_reducible refine Up.alloc ?_ _) | (with_reducible refine Up.drew ?_) | ((with_reducible refine Up.set ?_ ?_ _); rotate_left; focus (first | omega | (simp; done) | (simp; omega))) | (with_reducible refine Up.drewN ?_ _) | (with_reducible refine Up.call ?_ (by with_reducible assumption)))))) (Hb.out.up (by (repeat (first | (with_reducible exact Up.refl _) | (with_reducible assumption) | (with_reducible refine Up.alloc ?_ _) | (with_reducible refine Up.drew ?_) | ((with_reducible refine Up.set ?_ ?_ _); rotate_left; focus (first | omega | (simp; done) | (simp; omega))) | (with_reducible refine Up.drewN ?_ _) | (with_reducible refine Up.call ?_ (by with_reducible assumption))))))).mono ?_); rintro e w1 ⟨x1, hx1, rfl, hb1⟩ <;> (rw [Hrd.out] at hx1; subst hx1)) <;> (have hle := Up.le hb1; (try simp only [World.size_alloc, World.size_setCell, World.size_drew, World.heap_drewN] at hle); (try (have _ : w.heap.size < w1.heap.size := (by omega); (try (apply fk hb1 (w.heap.size); (focus (go_simp; rfl)); (focus (intro o; go_simp)); intro z; (try clear f_0); have f_0 := z; clear z)); (try (apply ck hb1 (w.heap.size) 0; (focus (go_simp; rfl)); intro z; (try clear c_0_0); have c_0_0 := z; clear z; (try (apply ck hb1 (w.heap.size) 1; (focus (go_simp; rfl)); intro z; (try clear c_0_1); have c_0_1 := z; clear z)))); (try (have _ : w.heap.size + 1 < w1.heap.size := (by omega); (try (apply fk hb1 (w.heap.size + 1); (focus (go_simp; rfl)); (focus (intro o; go_simp)); intro z; (try clear f_1); have f_1 := z; clear z)); (try (apply ck hb1 (w.heap.size + 1) 0; (focus (go_simp; rfl)); intro z; (try clear c_1_0); have c_1_0 := z; clear z; (try (apply ck hb1 (w.heap.size + 1) 1; (focus (go_simp; rfl)); intro z; (try clear c_1_1); have c_1_1 := z; clear z)))))))); clear hle; (try (apply old_keep (w0 := w) (w := w1); (focus ((repeat (first | (with_reducible exact Up.refl _) | (with_reducible assumption) | (with_reducible refine Up.alloc ?_ _) | (with_reducible refine Up.drew ?_) | ((with_reducible refine Up.set ?_ ?_ _); rotate_left; focus (first | omega | (simp; done) | (simp; omega))) | (with_reducible refine Up.drewN ?_ _) | (with_reducible refine Up.call ?_ (by with_reducible assumption)))))); intro y z; (try clear hUp); (try clear hOld); have hUp := y; have hOld := z; clear y z)))))
    go_ret2
    refine RetR.mk (.error e0) ?_ rfl (rel := rlNE _) rfl
    (repeat (first | (with_reducible exact Up.refl _) | (with_reducible assumption) | (with_reducible refine Up.alloc ?_ _) | (with_reducible refine Up.drew ?_) | ((with_reducible refine Up.set ?_ ?_ _); rotate_left; focus (first | omega | (simp; done) | (simp; omega))) | (with_reducible refine Up.drewN ?_ _) | (with_reducible refine Up.call ?_ (by with_reducible assumption))))
  · have e1 : decide (n < 0) = false := decide_eq_false (by omega)
    have e2 : decide (20 < n) = false := decide_eq_false (by omega)
    rw [hr]
    obtain ⟨m, rfl⟩ : ∃ m : Nat, n = m := ⟨n.toNat, by omega⟩
    rw [Int.toNat_natCast]
    have Hm := hid (show m ≤ 20 by omega)
    have Hrd := hid hrd; have HS := hid hs; have HB := hid hB; have Hl := hid hl
    obtain ⟨i0, hi0, hz0, hz1, hz2⟩ := info_parts Try.infoBox
    clear hrd hr hn1 hn2 hs hB hl
    go_enter Try.func6, Try.ntmps6
    go_wp2_with (first
                        | ((go_at_call 17; (with_reducible refine (ready_any _ _ _ s b _ _ _ _ (HY.out.up (by (repeat (first | (with_reducible exact Up.refl _) | (with_reducible assumption) | (with_reducible refine Up.alloc ?_ _) | (with_reducible refine Up.drew ?_) | ((with_reducible refine Up.set ?_ ?_ _); rotate_left; focus (first | omega | (simp; done) | (simp; omega))) | (with_reducible refine Up.drewN ?_ _) | (with_reducible refine Up.call ?_ (by with_reducible assumption)))))) (Hb.out.up (by (repeat (first | (with_reducible exact Up.refl _) | (with_reducible assumption) | (with_reducible refine Up.alloc ?_ _) | (with_reducible refine Up.drew ?_) | ((with_reducible refine Up.set ?_ ?_ _); rotate_left; focus (first | omega | (simp; done) | (simp; omega))) | (with_reducible refine Up.drewN ?_ _) | (with_reducible refine Up.call ?_ (by with_reducible assumption))))))).mono ?_); rintro e w1 ⟨x1, hx1, rfl, hb1⟩ <;> (rw [Hrd.out] at hx1; subst hx1)) <;> (have hle := Up.le hb1; (try simp only [World.size_alloc, World.size_setCell, World.size_drew, World.heap_drewN] at hle); (try (have _ : w.heap.size < w1.heap.size := (by omega); (try (apply fk hb1 (w.heap.size); (focus (go_simp; rfl)); (focus (intro o; go_simp)); intro z; (try clear f_0); have f_0 := z; clear z)); (try (apply ck hb1 (w.heap.size) 0; (focus (go_simp; rfl)); intro z; (try clear c_0_0); have c_0_0 := z; clear z; (try (apply ck hb1 (w.heap.size) 1; (focus (go_simp; rfl)); intro z; (try clear c_0_1); have c_0_1 := z; clear z)))); (try (have _ : w.heap.size + 1 < w1.heap.size := (by omega); (try (apply fk hb1 (w.heap.size + 1); (focus (go_simp; rfl)); (focus (intro o; go_simp)); intro z; (try clear f_1); have f_1 := z; clear z)); (try (apply ck hb1 (w.heap.size + 1) 0; (focus (go_simp; rfl)); intro z; (try clear c_1_0); have c_1_0 := z; clear z; (try (apply ck hb1 (w.heap.size + 1) 1; (focus (go_simp; rfl)); intro z; (try clear c_1_1); have c_1_1 := z; clear z)))))))); clear hle; (try (apply old_keep (w0 := w) (w := w1); (focus ((repeat (first | (with_reducible exact Up.refl _) | (with_reducible assumption) | (with_reducible refine Up.alloc ?_ _) | (with_reducible refine Up.drew ?_) | ((with_reducible refine Up.set ?_ ?_ _); rotate_left; focus (first | omega | (simp; done) | (simp; omega))) | (with_reducible refine Up.drewN ?_ _) | (with_reducible refine Up.call ?_ (by with_reducible assumption)))))); intro y z; (try clear hUp); (try clear hOld); have hUp := y; have hOld := z; clear y z))))
                        | ((go_at_call 18; (with_reducible refine (sclone_any _ b _ _ (Hb.out.up (by (repeat (first | (with_reducible exact Up.refl _) | (with_reducible assumption) | (with_reducible refine Up.alloc ?_ _) | (with_reducible refine Up.drew ?_) | ((with_reducible refine Up.set ?_ ?_ _); rotate_left; focus (first | omega | (simp; done) | (simp; omega))) | (with_reducible refine Up.drewN ?_ _) | (with_reducible refine Up.call ?_ (by with_reducible assumption)))))) HB.out.pos (by have := HB.out.few; omega)).mono ?_); rintro e w2 ⟨x2, v2, rfl, rfl, hv2, hb2⟩ <;> (obtain ⟨A2, c2, rfl, hrd2, hc2⟩ := OwnS.rd hv2; have Hlt2 := hid (fun b o (e : A2 = some ⟨b, o, none⟩) => (OwnS.lt hv2 b (by rw [e]; rfl)).2); have Hrd2 := hid hrd2; have Hc2 := hid hc2; clear hv2 hrd2 hc2)) <;> (have hle := Up.le hb2; (try simp only [World.size_alloc, World.size_setCell, World.size_drew, World.heap_drewN] at hle); (try (have _ : w.heap.size < w2.heap.size := (by omega); (try (apply fk hb2 (w.heap.size); (focus (go_simp; rfl)); (focus (intro o; go_simp)); intro z; (try clear f_0); have f_0 := z; clear z)); (try (apply ck hb2 (w.heap.size) 0; (focus (go_simp; rfl)); intro z; (try clear c_0_0); have c_0_0 := z; clear z; (try (apply ck hb2 (w.heap.size) 1; (focus (go_simp; rfl)); intro z; (try clear c_0_1); have c_0_1 := z; clear z)))); (try (have _ : w.heap.size + 1 < w2.heap.size := (by omega); (try (apply fk hb2 (w.heap.size + 1); (focus (go_simp; rfl)); (focus (intro o; go_simp)); intro z; (try clear f_1); have f_1 := z; clear z)); (try (apply ck hb2 (w.heap.size + 1) 0; (focus (go_simp; rfl)); intro z; (try clear c_1_0); have c_1_0 := z; clear z; (try (apply ck hb2 (w.heap.size + 1) 1; (focus (go_simp; rfl)); intro z; (try clear c_1_1); have c_1_1 := z; clear z)))))))); (try (have _ : w1.heap.size < w2.heap.size := (by omega); (try (apply fk hb2 (w1.heap.size); (focus (go_simp; rfl)); (focus (intro o; go_simp)); intro z; (try clear f1_0); have f1_0 := z; clear z)); (try (apply ck hb2 (w1.heap.size) 0; (focus (go_simp; rfl)); intro z; (try clear c1_0_0); have c1_0_0 := z; clear z; (try (apply ck hb2 (w1.heap.size) 1; (focus (go_simp; rfl)); intro z; (try clear c1_0_1); have c1_0_1 := z; clear z)))); (try (have _ : w1.heap.size + 1 < w2.heap.size := (by omega); (try (apply fk hb2 (w1.heap.size + 1); (focus (go_simp; rfl)); (focus (intro o; go_simp)); intro z; (try clear f1_1); have f1_1 := z; clear z)); (try (apply ck hb2 (w1.heap.size + 1) 0; (focus (go_simp; rfl)); intro z; (try clear c1_1_0); have c1_1_0 := z; clear z; (try (apply ck hb2 (w1.heap.size + 1) 1; (focus (go_simp; rfl)); intro z; (try clear c1_1_1); have c1_1_1 := z; clear z)))))))); clear hle; (try (apply old_keep (w0 := w) (w := w2); (focus ((repeat (first | (with_reducible exact Up.refl _) | (with_reducible assumption) | (with_reducible refine Up.alloc ?_ _) | (with_reducible refine Up.drew ?_) | ((with_reducible refine Up.set ?_ ?_ _); rotate_left; focus (first | omega | (simp; done) | (simp; omega))) | (with_reducible refine Up.drewN ?_ _) | (with_reducible refine Up.call ?_ (by with_reducible assumption)))))); intro y z; (try clear hUp); (try clear hOld); have hUp := y; have hOld := z; clear y z)))))
    have Hown0 := hid (OwnR.one (R := RdS) (T := 23) (base := w.heap.size + 1) RdS.up (by have := Up.le hb1; have := Up.le hb2; simp at *; omega) Hrd2.out Hc2.out Hlt2.out)
    go_loopw [9, 30] (fun v i wr => ∃ (k : Nat) (L : List (List Sp)) (cb : List Sp), k ≤ m ∧ i = .int .i64 k ∧ Hid (preB [] (runG s m b) = preB L (runG s (m - k) cb)) ∧ Hid (L.length = k) ∧ Hid (Bx cb) ∧ Hid (OwnR 23 RdS wr (w.heap.size + 1) v (L ++ [cb])) ∧ Up w wr ∧
      (Cf wr w.heap.size 0 (.slice A s.next.length c) ∧ Cf wr w.heap.size 1 (.slice B s.push.length d))) (fun _ i _ => m - (intOf i).toNat)
    case atStart =>
      refine ⟨0, [], b, by omega, rfl, rfl, rfl, HB.out, Hown0.out, ?_, ⟨by go_simp, by go_simp⟩, ⟨by go_simp, by go_simp⟩⟩
      (repeat (first | (with_reducible exact Up.refl _) | (with_reducible assumption) | (with_reducible refine Up.alloc ?_ _) | (with_reducible refine Up.drew ?_) | ((with_reducible refine Up.set ?_ ?_ _); rotate_left; focus (first | omega | (simp; done) | (simp; omega))) | (with_reducible refine Up.drewN ?_ _) | (with_reducible refine Up.call ?_ (by with_reducible assumption))))
    case round =>
      obtain ⟨k, L, cb, hk, rfl, H, HL, HBc, Hown, hU, C0, C1⟩ := hrel
      have gr := (bcell hU).1
      have hle := hU.le
      obtain ⟨c0, g0⟩ := C0
      obtain ⟨c1, g1⟩ := C1
      have l0 := World.block_lt_of_cell? wr _ c0
      dsimp only at l0
      by_cases hlt : k < m
      · obtain ⟨g, o, N, cap, A3, c3, rfl, hN, hg1, hg2, j1, j2, j3⟩ := Hown.out.last HL.out
        have Hj3 := hid j3
        have hdk : decide ((k : Int) < (m : Int)) = true := by simp; omega
        have hk0 : (0 : Int) ≤ (k : Int) := by omega
        have hkN : (k : Int) < (N : Int) := by omega
        have hkN2 : k < N := by omega
        have hk9 : (k : Int) < 20 := by have := Hm.out; omega
        have Hlt := hid hlt
        clear gr hlt j2 j3 hN
        cases hnx : nextF s cb with
        | error n2 =>
          have Hnx := hid hnx; clear hnx
          go_wp2_with fail
          go_region_law (go_simp; (go_at_call 19; refine (next_any _ _ _ s cb _ _ _ _ (HY.out.up (by (repeat (first | (with_reducible exact Up.refl _) | (with_reducible assumption) | (with_reducible refine Up.alloc ?_ _) | (with_reducible refine Up.drew ?_) | ((with_reducible refine Up.set ?_ ?_ _); rotate_left; focus (first | omega | (simp; done) | (simp; omega))) | (with_reducible refine Up.drewN ?_ _) | (with_reducible refine Up.call ?_ (by with_reducible assumption)))))) (Hj3.out.up (by (repeat (first | (with_reducible exact Up.refl _) | (with_reducible assumption) | (with_reducible refine Up.alloc ?_ _) | (with_reducible refine Up.drew ?_) | ((with_reducible refine Up.set ?_ ?_ _); rotate_left; focus (first | omega | (simp; done) | (simp; omega))) | (with_reducible refine Up.drewN ?_ _) | (with_reducible refine Up.call ?_ (by with_reducible assumption)))))) HS.out HBc.out).mono ?_; rintro e w4 ⟨x4, v4, hx4, rfl, hv4, hb4⟩); rw [Hnx.out] at hx4; subst hx4; obtain rfl := slNE_error hv4; clear hv4)
          all_goals go_wp2
          all_goals
            go_ret2
            refine RetR.mk (.error n2) ?_ ?_ (rel := rlNE _) rfl
            · (repeat (first | (with_reducible exact Up.refl _) | (with_reducible assumption) | (with_reducible refine Up.alloc ?_ _) | (with_reducible refine Up.drew ?_) | ((with_reducible refine Up.set ?_ ?_ _); rotate_left; focus (first | omega | (simp; done) | (simp; omega))) | (with_reducible refine Up.drewN ?_ _) | (with_reducible refine Up.call ?_ (by with_reducible assumption))))
            · have := Hlt.out
              rw [H.out, show m - k = (m - k - 1) + 1 by omega]; exact runG_bad Hnx.out
        | ok nx =>
          have HBn := hid (next_bx HS.out HBc.out hnx).1
          have Hnx := hid hnx; clear hnx
          go_wp2_with fail
          go_region_law (go_simp; (go_at_call 19; refine (next_any _ _ _ s cb _ _ _ _ (HY.out.up (by (repeat (first | (with_reducible exact Up.refl _) | (with_reducible assumption) | (with_reducible refine Up.alloc ?_ _) | (with_reducible refine Up.drew ?_) | ((with_reducible refine Up.set ?_ ?_ _); rotate_left; focus (first | omega | (simp; done) | (simp; omega))) | (with_reducible refine Up.drewN ?_ _) | (with_reducible refine Up.call ?_ (by with_reducible assumption)))))) (Hj3.out.up (by (repeat (first | (with_reducible exact Up.refl _) | (with_reducible assumption) | (with_reducible refine Up.alloc ?_ _) | (with_reducible refine Up.drew ?_) | ((with_reducible refine Up.set ?_ ?_ _); rotate_left; focus (first | omega | (simp; done) | (simp; omega))) | (with_reducible refine Up.drewN ?_ _) | (with_reducible refine Up.call ?_ (by with_reducible assumption)))))) HS.out HBc.out).mono ?_; rintro e w4 ⟨x4, v4, hx4, rfl, hv4, hb4⟩); rw [Hnx.out] at hx4; subst hx4; obtain ⟨A5, c5, rfl, hrd5, hc5, hn5⟩ := slNE_ok hv4; have Hrd5 := hid hrd5; have Hc5 := hid hc5; have Hn5 := hid (fun b o e => (show wr.heap.size ≤ b ∧ b < w4.heap.size from ⟨by have := (hn5 b o e).1; simp at this; omega, (hn5 b o e).2⟩)); clear hv4 hrd5 hn5 hc5; have hbr : Up wr w4 := (by (repeat (first | (with_reducible exact Up.refl _) | (with_reducible assumption) | (with_reducible refine Up.alloc ?_ _) | (with_reducible refine Up.drew ?_) | ((with_reducible refine Up.set ?_ ?_ _); rotate_left; focus (first | omega | (simp; done) | (simp; omega))) | (with_reducible refine Up.drewN ?_ _) | (with_reducible refine Up.call ?_ (by with_reducible assumption))))); obtain ⟨hc4, hf4⟩ := bcell hbr; clear hbr; have _ : w.heap.size < w4.heap.size := (by have hle := Up.le hb4; first | omega | (simp at hle; omega) | (simp at hle; done)))
          all_goals
            have UA : Up wr (w4.alloc (Obj.cells #[Value.slice A5 nx.length c5] 23)) := by (repeat (first | (with_reducible exact Up.refl _) | (with_reducible assumption) | (with_reducible refine Up.alloc ?_ _) | (with_reducible refine Up.drew ?_) | ((with_reducible refine Up.set ?_ ?_ _); rotate_left; focus (first | omega | (simp; done) | (simp; omega))) | (with_reducible refine Up.drewN ?_ _) | (with_reducible refine Up.call ?_ (by with_reducible assumption))))
            obtain ⟨vs, p1, p2, p3⟩ := (OwnR.up keepsS Hown.out UA).parts
            have UW : Up w (w4.alloc (Obj.cells #[Value.slice A5 nx.length c5] 23)) := by (repeat (first | (with_reducible exact Up.refl _) | (with_reducible assumption) | (with_reducible refine Up.alloc ?_ _) | (with_reducible refine Up.drew ?_) | ((with_reducible refine Up.set ?_ ?_ _); rotate_left; focus (first | omega | (simp; done) | (simp; omega))) | (with_reducible refine Up.drewN ?_ _) | (with_reducible refine Up.call ?_ (by with_reducible assumption))))
            have Hp3 := hid p3; have HUW := hid UW; have HUA := hid UA
            have C0 : Cf (w4.alloc (Obj.cells #[Value.slice A5 nx.length c5] 23)) w.heap.size 0 (.slice A s.next.length c) := ⟨by go_simp, by go_simp⟩
            have C1 : Cf (w4.alloc (Obj.cells #[Value.slice A5 nx.length c5] 23)) w.heap.size 1 (.slice B s.push.length d) := ⟨by go_simp, by go_simp⟩
            have HC0 := hid C0; have HC1 := hid C1
            clear p3 UW UA C0 C1
            go_wp2_with (at_builtin; refine wpList_append_own_at _ rfl (.tmp 45) (.tmp 47) _ rfl (w.heap.size + 1) 23 i0 (.slice none 0 0) 1 24 Try.underlying29 hi0 hz0 hz1 hz2 rfl (by decide) _ _ _ rfl p1 ⟨w4.heap.size, 0, none⟩ 1 1 [.slice A5 nx.length c5] rfl rfl (cell_one_new _ _ _) (by simp [Value.oneCell']) (by have := HL.out; have := Hm.out; have := Hlt.out; unfold maxLen; simp; omega) (by have := HL.out; have := Hm.out; have := Hlt.out; simp; omega) (by simp; omega) ?_; intro v8 w5 own8 g8 _ at8)
            have hne : ∀ b : Nat, wr.heap.size ≤ b → (Value.slice (some ⟨g, o, none⟩) N cap).ownBlock ≠ some b := fun b hb e => by injection e with e; dsimp only at e; omega
            have hn0 : (Value.slice (some ⟨g, o, none⟩) N cap).ownBlock ≠ some w.heap.size := fun e => by injection e with e; dsimp only at e; omega
            have Hne := hid hne; have Hn0 := hid hn0
            clear hne hn0
            go_roundw
            case rel =>
              refine ⟨k + 1, L ++ [cb], nx, by have := Hlt.out; omega, by go_num, ?_, ?_, HBn.out, ?_, ?_, Cf.keep HC0.out g8 Hn0.out, Cf.keep HC1.out g8 Hn0.out⟩
              · show _ = _
                have := Hlt.out
                rw [H.out, show m - k = (m - (k + 1)) + 1 by omega]; exact runG_good Hnx.out
              · have := HL.out
                show _ = _
                simp; omega
              · exact OwnR.snoc keepsS Hp3.out (Hrd5.out.up ((Up.refl w4).alloc _)) Hc5.out (fun b o e => ⟨by have := (Hn5.out b o e).2; simp; omega, Hne.out b (Hn5.out b o e).1⟩) p2 own8 g8 at8
              · exact Below.grown HUW.out g8 HUW.out.le (fun j hj => by injection hj with hj; dsimp only at hj; omega)
            case measure => have := Hlt.out; simp [intOf]; omega
      · obtain rfl : k = m := by omega
        obtain ⟨A4, c4, rfl, hrd4, hc4⟩ := Hown.out.rd
        have Hrd4 := hid hrd4
        clear gr hrd4
        go_wp2
        go_ret2
        refine RetR.mk (.ok (L ++ [cb])) hU ?_ (rel := rlNE _) ⟨A4, c4, rfl, Hrd4.out, hc4⟩
        rw [H.out, Nat.sub_self]
        simp [runG, preB]
end Go.Proofs.Ytknkpjfoaijaoaa
