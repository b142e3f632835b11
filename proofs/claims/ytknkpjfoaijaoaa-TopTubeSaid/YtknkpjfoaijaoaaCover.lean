/- The walks of cover.pieces, Pieces. -/
import Derived.Test.YtknkpjfoaijaoaaFlow
import Derived.Test.YtknkpjfoaijaoaaClone

set_option linter.unusedVariables false
set_option linter.unusedSimpArgs false
namespace Go.Proofs.Ytknkpjfoaijaoaa
open Go.RowKit

/-- A row of boxes in new memory, each in new memory. -/
def pcR (base : Nat) (w : World) (l : List (List Sp)) (v : Value) : Prop :=
  ∃ vs, w.ownsRow base 23 1 v l.length vs ∧ vs.length = l.length ∧ ∀ k, k < l.length → ∃ A c, vs[k]? = some (.slice A (l[k]?.getD []).length c) ∧ (l[k]?.getD []).length ≤ c ∧ RdS w A (l[k]?.getD []) ∧ ∀ b o, A = some ⟨b, o, none⟩ → base ≤ b ∧ b < w.heap.size ∧ v.ownBlock ≠ some b
theorem pcR.own {base : Nat} {w : World} {l : List (List Sp)} {v : Value} (h : pcR base w l v) : OwnR 23 RdS w base v l := by
  obtain ⟨vs, h1, -, h3⟩ := h
  refine ⟨vs, h1, fun k hk => ?_⟩
  obtain ⟨A, c, q1, q2, q3, q4⟩ := h3 k hk
  exact ⟨A, c, q1, q2, q3, fun b o e => (q4 b o e).2⟩
theorem pcR.up {base : Nat} {w w' : World} {l : List (List Sp)} {v : Value} (h : pcR base w l v) (hu : Up w w') : pcR base w' l v := by
  obtain ⟨vs, h1, h2, h3⟩ := h
  refine ⟨vs, World.ownsRow.kept h1 (row := none) (grown_up hu) (by cases v.ownBlock <;> simp), h2, fun k hk => ?_⟩
  obtain ⟨A, c, q1, q2, q3, q4⟩ := h3 k hk
  exact ⟨A, c, q1, q2, q3.up hu, fun b o e => ⟨(q4 b o e).1, Nat.lt_of_lt_of_le (q4 b o e).2.1 hu.le, (q4 b o e).2.2⟩⟩
theorem pcR.mono {base base' : Nat} {w : World} {l : List (List Sp)} {v : Value} (h : pcR base w l v) (hb : base' ≤ base) : pcR base' w l v := by
  obtain ⟨vs, h1, h2, h3⟩ := h
  refine ⟨vs, World.ownsRow.mono h1 hb, h2, fun k hk => ?_⟩
  obtain ⟨A, c, q1, q2, q3, q4⟩ := h3 k hk
  exact ⟨A, c, q1, q2, q3, fun b o e => ⟨Nat.le_trans hb (q4 b o e).1, (q4 b o e).2⟩⟩
theorem pcR.one {base : Nat} {w : World} {x : List Sp} {A : Option Addr} {c : Nat} (hbase : base ≤ w.heap.size) (hx : RdS w A x) (hc : x.length ≤ c) (hb : ∀ b o, A = some ⟨b, o, none⟩ → base ≤ b ∧ b < w.heap.size) :
    pcR base (w.alloc (.cells #[.slice A x.length c] 23)) [x] (.slice (some ⟨w.heap.size, 0, none⟩) 1 1) := by
  refine ⟨[.slice A x.length c], World.ownsRow_lit w #[.slice A x.length c] 1 hbase (by decide) rfl, rfl, fun k hk => ?_⟩
  obtain rfl : k = 0 := by simpa using hk
  refine ⟨A, c, rfl, hc, hx.up ((Up.refl w).alloc _), fun b o e => ⟨(hb b o e).1, ?_, ?_⟩⟩
  · have := (hb b o e).2
    simp; omega
  · have := (hb b o e).2
    intro e2
    injection e2 with e2
    dsimp only at e2
    omega
theorem pcR.join {w4 w5 : World} {base base2 : Nat} {v1 v2 v8 : Value} {l1 l2 : List (List Sp)} {vs1 vs2 : List Value}
    (h1 : ∀ k, k < l1.length → ∃ A c, vs1[k]? = some (.slice A (l1[k]?.getD []).length c) ∧ (l1[k]?.getD []).length ≤ c ∧ RdS w4 A (l1[k]?.getD []) ∧ ∀ b o, A = some ⟨b, o, none⟩ → base ≤ b ∧ b < w4.heap.size ∧ v1.ownBlock ≠ some b)
    (h2 : ∀ k, k < l2.length → ∃ A c, vs2[k]? = some (.slice A (l2[k]?.getD []).length c) ∧ (l2[k]?.getD []).length ≤ c ∧ RdS w4 A (l2[k]?.getD []) ∧ ∀ b o, A = some ⟨b, o, none⟩ → base2 ≤ b ∧ b < w4.heap.size ∧ v2.ownBlock ≠ some b)
    (hv1 : ∀ g, v1.ownBlock = some g → g < base2) (hbb : base ≤ base2) (e1 : vs1.length = l1.length) (e2 : vs2.length = l2.length)
    (hown : w5.ownsRow base 23 1 v8 (l1.length + l2.length) (vs1 ++ vs2)) (hg : w4.grownBy w5 v1.ownBlock) (hat : v8.ownBlock = v1.ownBlock ∨ v8.ownBlock = some w4.heap.size) : pcR base w5 (l1 ++ l2) v8 := by
  have hnew : ∀ b : Nat, b < w4.heap.size → v1.ownBlock ≠ some b → b < w5.heap.size ∧ v8.ownBlock ≠ some b := by
    intro b hb hne
    refine ⟨Nat.lt_of_lt_of_le hb hg.size, ?_⟩
    rcases hat with e | e
    · rw [e]; exact hne
    · rw [e]; intro e2; injection e2 with e2; omega
  refine ⟨vs1 ++ vs2, by simpa using hown, by simp [e1, e2], fun k hk => ?_⟩
  by_cases hkl : k < l1.length
  · obtain ⟨A, c, q1, q2, q3, q4⟩ := h1 k hkl
    rw [List.getElem?_append_left hkl, List.getElem?_append_left (by omega)]
    exact ⟨A, c, q1, q2, keepsS.grown q3 hg (fun b o e => (q4 b o e).2.2), fun b o e => ⟨(q4 b o e).1, hnew b (q4 b o e).2.1 (q4 b o e).2.2⟩⟩
  · have hk2 : k - l1.length < l2.length := by simp at hk; omega
    obtain ⟨A, c, q1, q2, q3, q4⟩ := h2 (k - l1.length) hk2
    rw [List.getElem?_append_right (by omega), List.getElem?_append_right (by omega), e1]
    have hne : ∀ b o, A = some ⟨b, o, none⟩ → v1.ownBlock ≠ some b := fun b o e e3 => by have := (q4 b o e).1; have := hv1 b e3; omega
    exact ⟨A, c, q1, q2, keepsS.grown q3 hg hne, fun b o e => ⟨Nat.le_trans hbb (q4 b o e).1, hnew b (q4 b o e).2.1 (hne b o e)⟩⟩
theorem pieces_len : ∀ (n : Nat) (b : List Sp), (cpiecesG n b).length = 2 ^ n
  | 0, b => rfl
  | n + 1, b => by
    unfold cpiecesG
    rw [List.length_append, pieces_len n, pieces_len n, Nat.pow_succ]
    omega
theorem pow_few {n : Nat} (h : n ≤ 5) : 2 ^ n ≤ 32 := Nat.pow_le_pow_right (n := 2) (by decide) h
theorem pcR.at {base : Nat} {w : World} {l : List (List Sp)} {v : Value} (h : pcR base w l v) (hl : 0 < l.length) : ∃ g c, v = .slice (some ⟨g, 0, none⟩) l.length c ∧ base ≤ g ∧ g < w.heap.size ∧ l.length ≤ c := by
  obtain ⟨vs, h1, -, -⟩ := h
  rcases h1.2 with ⟨_, h0⟩ | ⟨g, cap, cur, hv, hb, hg, hle, _⟩
  · omega
  · exact ⟨g, cap, hv, hb, (Array.getElem?_eq_some_iff.1 hg).1, hle⟩
set_option maxRecDepth 100000 in
set_option maxHeartbeats 4000000 in
theorem cpieces_any (n : Nat) : ∀ (A : Option Addr) (b : List Sp) (c : Nat) (w : World), RdS w A b → Bx b → n ≤ 5 →
    Calls Try.prog 42 #[.slice A b.length c, .int .i64 (n : Int)] w (RetR (pcR w.heap.size) (cpiecesG n b) w) := by
  induction n with
  | zero =>
    intro A b c w hr hB _
    have Hr := hid hr; have HB := hid hB
    clear hr hB
    have hd : (((0 : Nat) : Int) == 0) = true := rfl
    go_enter Try.func42, Try.ntmps42
    go_wp2_with (first
                        | ((go_at_call 18; (with_reducible refine (sclone_any _ b _ _ (Hr.out.up (by (repeat (first | (with_reducible exact Up.refl _) | (with_reducible assumption) | (with_reducible refine Up.alloc ?_ _) | (with_reducible refine Up.drew ?_) | ((with_reducible refine Up.set ?_ ?_ _); rotate_left; focus (first | omega | (simp; done) | (simp; omega))) | (with_reducible refine Up.drewN ?_ _) | (with_reducible refine Up.call ?_ (by with_reducible assumption)))))) HB.out.pos (by have := HB.out.few; omega)).mono ?_); rintro e w2 ⟨x2, v2, rfl, rfl, hv2, hb2⟩ <;> (obtain ⟨A2, c2, rfl, hrd2, hc2⟩ := OwnS.rd hv2; have Hlt2 := hid (fun b o (e : A2 = some ⟨b, o, none⟩) => OwnS.lt hv2 b (by rw [e]; rfl)); have Hrd2 := hid hrd2; have Hc2 := hid hc2; clear hv2 hrd2 hc2)) <;> (have hle := Up.le hb2; (try simp only [World.size_alloc, World.size_setCell, World.size_drew, World.heap_drewN] at hle); (try (have _ : w.heap.size < w2.heap.size := (by omega); (try (apply fk hb2 (w.heap.size); (focus (go_simp; rfl)); (focus (intro o; go_simp)); intro z; (try clear f_0); have f_0 := z; clear z)); (try (apply ck hb2 (w.heap.size) 0; (focus (go_simp; rfl)); intro z; (try clear c_0_0); have c_0_0 := z; clear z; (try (apply ck hb2 (w.heap.size) 1; (focus (go_simp; rfl)); intro z; (try clear c_0_1); have c_0_1 := z; clear z)))); (try (have _ : w.heap.size + 1 < w2.heap.size := (by omega); (try (apply fk hb2 (w.heap.size + 1); (focus (go_simp; rfl)); (focus (intro o; go_simp)); intro z; (try clear f_1); have f_1 := z; clear z)); (try (apply ck hb2 (w.heap.size + 1) 0; (focus (go_simp; rfl)); intro z; (try clear c_1_0); have c_1_0 := z; clear z; (try (apply ck hb2 (w.heap.size + 1) 1; (focus (go_simp; rfl)); intro z; (try clear c_1_1); have c_1_1 := z; clear z)))))))); (try (have _ : w1.heap.size < w2.heap.size := (by omega); (try (apply fk hb2 (w1.heap.size); (focus (go_simp; rfl)); (focus (intro o; go_simp)); intro z; (try clear f1_0); have f1_0 := z; clear z)); (try (apply ck hb2 (w1.heap.size) 0; (focus (go_simp; rfl)); intro z; (try clear c1_0_0); have c1_0_0 := z; clear z; (try (apply ck hb2 (w1.heap.size) 1; (focus (go_simp; rfl)); intro z; (try clear c1_0_1); have c1_0_1 := z; clear z)))); (try (have _ : w1.heap.size + 1 < w2.heap.size := (by omega); (try (apply fk hb2 (w1.heap.size + 1); (focus (go_simp; rfl)); (focus (intro o; go_simp)); intro z; (try clear f1_1); have f1_1 := z; clear z)); (try (apply ck hb2 (w1.heap.size + 1) 0; (focus (go_simp; rfl)); intro z; (try clear c1_1_0); have c1_1_0 := z; clear z; (try (apply ck hb2 (w1.heap.size + 1) 1; (focus (go_simp; rfl)); intro z; (try clear c1_1_1); have c1_1_1 := z; clear z)))))))); clear hle; (try (apply old_keep (w0 := w) (w := w2); (focus ((repeat (first | (with_reducible exact Up.refl _) | (with_reducible assumption) | (with_reducible refine Up.alloc ?_ _) | (with_reducible refine Up.drew ?_) | ((with_reducible refine Up.set ?_ ?_ _); rotate_left; focus (first | omega | (simp; done) | (simp; omega))) | (with_reducible refine Up.drewN ?_ _) | (with_reducible refine Up.call ?_ (by with_reducible assumption)))))); intro y z; (try clear hUp); (try clear hOld); have hUp := y; have hOld := z; clear y z)))))
    go_ret
    refine RetR.mk [b] ?_ rfl (rel := pcR w.heap.size) ?_
    · (repeat (first | (with_reducible exact Up.refl _) | (with_reducible assumption) | (with_reducible refine Up.alloc ?_ _) | (with_reducible refine Up.drew ?_) | ((with_reducible refine Up.set ?_ ?_ _); rotate_left; focus (first | omega | (simp; done) | (simp; omega))) | (with_reducible refine Up.drewN ?_ _) | (with_reducible refine Up.call ?_ (by with_reducible assumption))))
    · exact pcR.one (by have := Up.le hb2; (try simp at this); omega) Hrd2.out Hc2.out (fun b o e => ⟨by have := (Hlt2.out b o e).1; (try simp at this); omega, (Hlt2.out b o e).2⟩)
  | succ n ih =>
    intro A b c w hr hB hn
    have Hr := hid hr; have HB := hid hB
    have Hih := hid ih
    have Hh := hid (halves_bx hB)
    have hG : cpiecesG (n + 1) b = cpiecesG n (halvesF b).1 ++ cpiecesG n (halvesF b).2 := rfl
    rw [hG]
    obtain ⟨i0, hi0, hz0, hz1, hz2⟩ := info_parts Try.infoBox
    have hd : (((n + 1 : Nat) : Int) == 0) = false := beq_false_of_ne (by omega)
    have hd1 : ((n + 1 : Nat) : Int) - 1 = (n : Int) := by omega
    have hk0 : (0 : Int) ≤ (n : Int) := by omega
    have hk9 : (n : Int) < 5 := by omega
    have Hn := hid hn
    clear hr hB ih hG hn
    cases hx : halvesF b with
    | mk x y =>
    have Hx := hid hx
    rw [hx] at Hh
    dsimp only at Hh ⊢
    have P1 := hid (pieces_len n x); have P2 := hid (pieces_len n y)
    have Q := hid (show 2 ^ n ≤ 32 from pow_few (by have := Hn.out; omega))
    have Q0 := hid (show 0 < 2 ^ n from Nat.pow_pos (by decide))
    clear hx
    go_enter Try.func42, Try.ntmps42
    go_wp2_with (first
                        | ((go_at_call 63; (with_reducible refine (halves_any _ b _ _ (Hr.out.up (by (repeat (first | (with_reducible exact Up.refl _) | (with_reducible assumption) | (with_reducible refine Up.alloc ?_ _) | (with_reducible refine Up.drew ?_) | ((with_reducible refine Up.set ?_ ?_ _); rotate_left; focus (first | omega | (simp; done) | (simp; omega))) | (with_reducible refine Up.drewN ?_ _) | (with_reducible refine Up.call ?_ (by with_reducible assumption)))))) HB.out.pos (by have := HB.out.few; omega) HB.out.spans).mono ?_); rintro e w2 ⟨x2, v2, hx2, rfl, hv2, hb2⟩ <;> (rw [Hx.out] at hx2; subst hx2; obtain ⟨y1, y2, rfl, ho1, ho2⟩ := hv2; obtain ⟨A1, c1, rfl, hr1, -⟩ := OwnS.rd ho1; obtain ⟨A2, c2, rfl, hr2, -⟩ := OwnS.rd ho2; have Hr1 := hid hr1; have Hr2 := hid hr2; clear hr1 hr2 ho1 ho2)) <;> (have hle := Up.le hb2; (try simp only [World.size_alloc, World.size_setCell, World.size_drew, World.heap_drewN] at hle); (try (have _ : w.heap.size < w2.heap.size := (by omega); (try (apply fk hb2 (w.heap.size); (focus (go_simp; rfl)); (focus (intro o; go_simp)); intro z; (try clear f_0); have f_0 := z; clear z)); (try (apply ck hb2 (w.heap.size) 0; (focus (go_simp; rfl)); intro z; (try clear c_0_0); have c_0_0 := z; clear z; (try (apply ck hb2 (w.heap.size) 1; (focus (go_simp; rfl)); intro z; (try clear c_0_1); have c_0_1 := z; clear z)))); (try (have _ : w.heap.size + 1 < w2.heap.size := (by omega); (try (apply fk hb2 (w.heap.size + 1); (focus (go_simp; rfl)); (focus (intro o; go_simp)); intro z; (try clear f_1); have f_1 := z; clear z)); (try (apply ck hb2 (w.heap.size + 1) 0; (focus (go_simp; rfl)); intro z; (try clear c_1_0); have c_1_0 := z; clear z; (try (apply ck hb2 (w.heap.size + 1) 1; (focus (go_simp; rfl)); intro z; (try clear c_1_1); have c_1_1 := z; clear z)))))))); (try (have _ : w1.heap.size < w2.heap.size := (by omega); (try (apply fk hb2 (w1.heap.size); (focus (go_simp; rfl)); (focus (intro o; go_simp)); intro z; (try clear f1_0); have f1_0 := z; clear z)); (try (apply ck hb2 (w1.heap.size) 0; (focus (go_simp; rfl)); intro z; (try clear c1_0_0); have c1_0_0 := z; clear z; (try (apply ck hb2 (w1.heap.size) 1; (focus (go_simp; rfl)); intro z; (try clear c1_0_1); have c1_0_1 := z; clear z)))); (try (have _ : w1.heap.size + 1 < w2.heap.size := (by omega); (try (apply fk hb2 (w1.heap.size + 1); (focus (go_simp; rfl)); (focus (intro o; go_simp)); intro z; (try clear f1_1); have f1_1 := z; clear z)); (try (apply ck hb2 (w1.heap.size + 1) 0; (focus (go_simp; rfl)); intro z; (try clear c1_1_0); have c1_1_0 := z; clear z; (try (apply ck hb2 (w1.heap.size + 1) 1; (focus (go_simp; rfl)); intro z; (try clear c1_1_1); have c1_1_1 := z; clear z)))))))); clear hle; (try (apply old_keep (w0 := w) (w := w2); (focus ((repeat (first | (with_reducible exact Up.refl _) | (with_reducible assumption) | (with_reducible refine Up.alloc ?_ _) | (with_reducible refine Up.drew ?_) | ((with_reducible refine Up.set ?_ ?_ _); rotate_left; focus (first | omega | (simp; done) | (simp; omega))) | (with_reducible refine Up.drewN ?_ _) | (with_reducible refine Up.call ?_ (by with_reducible assumption)))))); intro y z; (try clear hUp); (try clear hOld); have hUp := y; have hOld := z; clear y z))))
                        | ((go_at_call 42; (with_reducible refine (Hih.out _ x _ _ (Hr1.out.up (by clear hUp; (repeat (first | (with_reducible exact Up.refl _) | (with_reducible assumption) | (with_reducible refine Up.alloc ?_ _) | (with_reducible refine Up.drew ?_) | ((with_reducible refine Up.set ?_ ?_ _); rotate_left; focus (first | omega | (simp; done) | (simp; omega))) | (with_reducible refine Up.drewN ?_ _) | (with_reducible refine Up.call ?_ (by with_reducible assumption)))))) Hh.out.1 (by have := Hn.out; omega)).mono ?_); rintro e w3 ⟨x3, v3, rfl, rfl, hv3, hb3⟩ <;> (obtain ⟨g3, c3, rfl, hg3, hl3, -⟩ := pcR.at hv3 (by have := P1.out; have := Q0.out; omega); have Hv3 := hid hv3; clear hv3)) <;> (have hle := Up.le hb3; (try simp only [World.size_alloc, World.size_setCell, World.size_drew, World.heap_drewN] at hle); (try (have _ : w.heap.size < w3.heap.size := (by omega); (try (apply fk hb3 (w.heap.size); (focus (go_simp; rfl)); (focus (intro o; go_simp)); intro z; (try clear f_0); have f_0 := z; clear z)); (try (apply ck hb3 (w.heap.size) 0; (focus (go_simp; rfl)); intro z; (try clear c_0_0); have c_0_0 := z; clear z; (try (apply ck hb3 (w.heap.size) 1; (focus (go_simp; rfl)); intro z; (try clear c_0_1); have c_0_1 := z; clear z)))); (try (have _ : w.heap.size + 1 < w3.heap.size := (by omega); (try (apply fk hb3 (w.heap.size + 1); (focus (go_simp; rfl)); (focus (intro o; go_simp)); intro z; (try clear f_1); have f_1 := z; clear z)); (try (apply ck hb3 (w.heap.size + 1) 0; (focus (go_simp; rfl)); intro z; (try clear c_1_0); have c_1_0 := z; clear z; (try (apply ck hb3 (w.heap.size + 1) 1; (focus (go_simp; rfl)); intro z; (try clear c_1_1); have c_1_1 := z; clear z)))))))); (try (have _ : w1.heap.size < w3.heap.size := (by omega); (try (apply fk hb3 (w1.heap.size); (focus (go_simp; rfl)); (focus (intro o; go_simp)); intro z; (try clear f1_0); have f1_0 := z; clear z)); (try (apply ck hb3 (w1.heap.size) 0; (focus (go_simp; rfl)); intro z; (try clear c1_0_0); have c1_0_0 := z; clear z; (try (apply ck hb3 (w1.heap.size) 1; (focus (go_simp; rfl)); intro z; (try clear c1_0_1); have c1_0_1 := z; clear z)))); (try (have _ : w1.heap.size + 1 < w3.heap.size := (by omega); (try (apply fk hb3 (w1.heap.size + 1); (focus (go_simp; rfl)); (focus (intro o; go_simp)); intro z; (try clear f1_1); have f1_1 := z; clear z)); (try (apply ck hb3 (w1.heap.size + 1) 0; (focus (go_simp; rfl)); intro z; (try clear c1_1_0); have c1_1_0 := z; clear z; (try (apply ck hb3 (w1.heap.size + 1) 1; (focus (go_simp; rfl)); intro z; (try clear c1_1_1); have c1_1_1 := z; clear z)))))))); (try (have _ : w2.heap.size < w3.heap.size := (by omega); (try (apply fk hb3 (w2.heap.size); (focus (go_simp; rfl)); (focus (intro o; go_simp)); intro z; (try clear f2_0); have f2_0 := z; clear z)); (try (apply ck hb3 (w2.heap.size) 0; (focus (go_simp; rfl)); intro z; (try clear c2_0_0); have c2_0_0 := z; clear z; (try (apply ck hb3 (w2.heap.size) 1; (focus (go_simp; rfl)); intro z; (try clear c2_0_1); have c2_0_1 := z; clear z)))); (try (have _ : w2.heap.size + 1 < w3.heap.size := (by omega); (try (apply fk hb3 (w2.heap.size + 1); (focus (go_simp; rfl)); (focus (intro o; go_simp)); intro z; (try clear f2_1); have f2_1 := z; clear z)); (try (apply ck hb3 (w2.heap.size + 1) 0; (focus (go_simp; rfl)); intro z; (try clear c2_1_0); have c2_1_0 := z; clear z; (try (apply ck hb3 (w2.heap.size + 1) 1; (focus (go_simp; rfl)); intro z; (try clear c2_1_1); have c2_1_1 := z; clear z)))))))); clear hle; (try (apply old_keep (w0 := w) (w := w3); (focus ((repeat (first | (with_reducible exact Up.refl _) | (with_reducible assumption) | (with_reducible refine Up.alloc ?_ _) | (with_reducible refine Up.drew ?_) | ((with_reducible refine Up.set ?_ ?_ _); rotate_left; focus (first | omega | (simp; done) | (simp; omega))) | (with_reducible refine Up.drewN ?_ _) | (with_reducible refine Up.call ?_ (by with_reducible assumption)))))); intro y z; (try clear hUp); (try clear hOld); have hUp := y; have hOld := z; clear y z))))
                        | ((go_at_call 42; have _n := hb3; clear _n; (with_reducible refine (Hih.out _ y _ _ (Hr2.out.up (by clear hUp; (repeat (first | (with_reducible exact Up.refl _) | (with_reducible assumption) | (with_reducible refine Up.alloc ?_ _) | (with_reducible refine Up.drew ?_) | ((with_reducible refine Up.set ?_ ?_ _); rotate_left; focus (first | omega | (simp; done) | (simp; omega))) | (with_reducible refine Up.drewN ?_ _) | (with_reducible refine Up.call ?_ (by with_reducible assumption)))))) Hh.out.2 (by have := Hn.out; omega)).mono ?_); rintro e w4 ⟨x4, v4, rfl, rfl, hv4, hb4⟩ <;> (obtain ⟨g4, c4, rfl, hg4, hl4, -⟩ := pcR.at hv4 (by have := P2.out; have := Q0.out; omega); obtain ⟨vs1, p1, p2, p3⟩ := pcR.mono (base' := w.heap.size) (pcR.up Hv3.out hb4) (by have := Up.le hb2; (try simp at this); omega); obtain ⟨vs2, r1, r2, r3⟩ := hv4; have hcell := World.ownsRow.cells r1 (g := g4) rfl; have Hp3 := hid p3; have Hr3 := hid r3; have Hp2 := hid p2; have Hr2' := hid r2; clear p3 r3)) <;> (have hle := Up.le hb4; (try simp only [World.size_alloc, World.size_setCell, World.size_drew, World.heap_drewN] at hle); (try (have _ : w.heap.size < w4.heap.size := (by omega); (try (apply fk hb4 (w.heap.size); (focus (go_simp; rfl)); (focus (intro o; go_simp)); intro z; (try clear f_0); have f_0 := z; clear z)); (try (apply ck hb4 (w.heap.size) 0; (focus (go_simp; rfl)); intro z; (try clear c_0_0); have c_0_0 := z; clear z; (try (apply ck hb4 (w.heap.size) 1; (focus (go_simp; rfl)); intro z; (try clear c_0_1); have c_0_1 := z; clear z)))); (try (have _ : w.heap.size + 1 < w4.heap.size := (by omega); (try (apply fk hb4 (w.heap.size + 1); (focus (go_simp; rfl)); (focus (intro o; go_simp)); intro z; (try clear f_1); have f_1 := z; clear z)); (try (apply ck hb4 (w.heap.size + 1) 0; (focus (go_simp; rfl)); intro z; (try clear c_1_0); have c_1_0 := z; clear z; (try (apply ck hb4 (w.heap.size + 1) 1; (focus (go_simp; rfl)); intro z; (try clear c_1_1); have c_1_1 := z; clear z)))))))); (try (have _ : w1.heap.size < w4.heap.size := (by omega); (try (apply fk hb4 (w1.heap.size); (focus (go_simp; rfl)); (focus (intro o; go_simp)); intro z; (try clear f1_0); have f1_0 := z; clear z)); (try (apply ck hb4 (w1.heap.size) 0; (focus (go_simp; rfl)); intro z; (try clear c1_0_0); have c1_0_0 := z; clear z; (try (apply ck hb4 (w1.heap.size) 1; (focus (go_simp; rfl)); intro z; (try clear c1_0_1); have c1_0_1 := z; clear z)))); (try (have _ : w1.heap.size + 1 < w4.heap.size := (by omega); (try (apply fk hb4 (w1.heap.size + 1); (focus (go_simp; rfl)); (focus (intro o; go_simp)); intro z; (try clear f1_1); have f1_1 := z; clear z)); (try (apply ck hb4 (w1.heap.size + 1) 0; (focus (go_simp; rfl)); intro z; (try clear c1_1_0); have c1_1_0 := z; clear z; (try (apply ck hb4 (w1.heap.size + 1) 1; (focus (go_simp; rfl)); intro z; (try clear c1_1_1); have c1_1_1 := z; clear z)))))))); (try (have _ : w2.heap.size < w4.heap.size := (by omega); (try (apply fk hb4 (w2.heap.size); (focus (go_simp; rfl)); (focus (intro o; go_simp)); intro z; (try clear f2_0); have f2_0 := z; clear z)); (try (apply ck hb4 (w2.heap.size) 0; (focus (go_simp; rfl)); intro z; (try clear c2_0_0); have c2_0_0 := z; clear z; (try (apply ck hb4 (w2.heap.size) 1; (focus (go_simp; rfl)); intro z; (try clear c2_0_1); have c2_0_1 := z; clear z)))); (try (have _ : w2.heap.size + 1 < w4.heap.size := (by omega); (try (apply fk hb4 (w2.heap.size + 1); (focus (go_simp; rfl)); (focus (intro o; go_simp)); intro z; (try clear f2_1); have f2_1 := z; clear z)); (try (apply ck hb4 (w2.heap.size + 1) 0; (focus (go_simp; rfl)); intro z; (try clear c2_1_0); have c2_1_0 := z; clear z; (try (apply ck hb4 (w2.heap.size + 1) 1; (focus (go_simp; rfl)); intro z; (try clear c2_1_1); have c2_1_1 := z; clear z)))))))); (try (have _ : w3.heap.size < w4.heap.size := (by omega); (try (apply fk hb4 (w3.heap.size); (focus (go_simp; rfl)); (focus (intro o; go_simp)); intro z; (try clear f3_0); have f3_0 := z; clear z)); (try (apply ck hb4 (w3.heap.size) 0; (focus (go_simp; rfl)); intro z; (try clear c3_0_0); have c3_0_0 := z; clear z; (try (apply ck hb4 (w3.heap.size) 1; (focus (go_simp; rfl)); intro z; (try clear c3_0_1); have c3_0_1 := z; clear z)))); (try (have _ : w3.heap.size + 1 < w4.heap.size := (by omega); (try (apply fk hb4 (w3.heap.size + 1); (focus (go_simp; rfl)); (focus (intro o; go_simp)); intro z; (try clear f3_1); have f3_1 := z; clear z)); (try (apply ck hb4 (w3.heap.size + 1) 0; (focus (go_simp; rfl)); intro z; (try clear c3_1_0); have c3_1_0 := z; clear z; (try (apply ck hb4 (w3.heap.size + 1) 1; (focus (go_simp; rfl)); intro z; (try clear c3_1_1); have c3_1_1 := z; clear z)))))))); clear hle; (try (apply old_keep (w0 := w) (w := w4); (focus ((repeat (first | (with_reducible exact Up.refl _) | (with_reducible assumption) | (with_reducible refine Up.alloc ?_ _) | (with_reducible refine Up.drew ?_) | ((with_reducible refine Up.set ?_ ?_ _); rotate_left; focus (first | omega | (simp; done) | (simp; omega))) | (with_reducible refine Up.drewN ?_ _) | (with_reducible refine Up.call ?_ (by with_reducible assumption)))))); intro y z; (try clear hUp); (try clear hOld); have hUp := y; have hOld := z; clear y z))))
                        | (at_builtin; refine wpList_append_own_at _ rfl (.tmp 20) (.tmp 24) _ rfl w.heap.size 23 i0 (.slice none 0 0) 1 24 Try.underlying29 hi0 hz0 hz1 hz2 rfl (by decide) _ _ _ rfl p1 ⟨g4, 0, none⟩ _ _ vs2 rfl (by rw [Hr2'.out]; omega) hcell ?_ (by have := P1.out; have := P2.out; have := Q.out; unfold maxLen; omega) (by have := P1.out; have := P2.out; have := Q.out; omega) (by have h2 := Up.le hb2; have h3 := Up.le hb3; have h4 := Up.le hb4; (try simp at h2); (try simp at h3); (try simp at h4); omega) ?_; rotate_left; intro v8 w5 own8 g8 _ at8))
    · have hm2 := Up.le hb2
      have hm3 := Up.le hb3
      have hm4 := Up.le hb4
      have hU4 : Up w w4 := by (repeat (first | (with_reducible exact Up.refl _) | (with_reducible assumption) | (with_reducible refine Up.alloc ?_ _) | (with_reducible refine Up.drew ?_) | ((with_reducible refine Up.set ?_ ?_ _); rotate_left; focus (first | omega | (simp; done) | (simp; omega))) | (with_reducible refine Up.drewN ?_ _) | (with_reducible refine Up.call ?_ (by with_reducible assumption))))
      go_ret
      refine RetR.mk (cpiecesG n x ++ cpiecesG n y) ?_ rfl (rel := pcR w.heap.size) (pcR.join Hp3.out Hr3.out (fun g hg => ?_) ?_ Hp2.out Hr2'.out own8 g8 at8)
      · exact Below.grown (a := w) (B := w.heap.size) hU4 g8 hU4.le (fun j hj => by injection hj with hj; dsimp only at hj; omega)
      · injection hg with hg
        dsimp only at hg
        omega
      · omega
    · intro u hu
      obtain ⟨k, hk, rfl⟩ := List.getElem_of_mem hu
      obtain ⟨A5, c5, q1, -⟩ := Hr3.out k (by rw [← Hr2'.out]; exact hk)
      rw [List.getElem?_eq_getElem hk] at q1
      injection q1 with q1
      rw [q1]; rfl
theorem deep_any (n : Int) (w : World) : Calls Try.prog 41 #[.int .i64 n] w fun e w' => e = .returned (.bool (decide (0 ≤ n) && decide (n ≤ 5))) ∧ w = w' := by
  go_enter Try.func41, Try.ntmps41
  go_wp2
  all_goals go_ret
  all_goals (simp [*]; try omega)
end Go.Proofs.Ytknkpjfoaijaoaa
