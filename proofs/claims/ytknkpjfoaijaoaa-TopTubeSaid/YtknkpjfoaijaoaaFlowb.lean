/- The walk of flow.Path. -/
import Derived.Test.YtknkpjfoaijaoaaFlow
import Derived.Test.YtknkpjfoaijaoaaStepd

set_option linter.unusedVariables false
set_option linter.unusedSimpArgs false
namespace Go.Proofs.Ytknkpjfoaijaoaa
open Go.RowKit

theorem Try.infoInts : (Try.prog.info? 26).map (fun i => (i.zero, i.size, i.bytes)) = some (some (.slice none 0 0), 1, 24) := by kernel_rfl
theorem ints_cells {w : World} {b o : Nat} {l : List Int} (h : ∀ k, k < l.length → w.cell? ⟨b, o + k, none⟩ = some (.int .i64 (l[k]?.getD 0))) :
    ∀ j u, (ints l)[j]? = some u → w.cell? ((⟨b, o, none⟩ : Addr).add j) = some u := by
  intro j u hj
  have hlt : j < l.length := by have := (List.getElem?_eq_some_iff.1 hj).1; simpa [ints] using this
  have ea : (⟨b, o, none⟩ : Addr).add j = ⟨b, o + j, none⟩ := by unfold Addr.add; split <;> simp_all
  rw [ea, h j hlt]
  simp [ints, hlt] at hj
  simp [hlt, hj]
theorem ints_one (l : List Int) : ∀ u ∈ ints l, u.oneCell' = true := by
  intro u hu
  unfold ints at hu
  obtain ⟨n, -, rfl⟩ := List.mem_map.1 hu
  rfl
/-- A row of the call's own, handed back. -/
def ownIR (base : Nat) (w : World) (l : List Int) (v : Value) : Prop := OwnI w base v l
set_option maxRecDepth 100000 in
set_option maxHeartbeats 1000000 in
theorem iclone_any (A : Option Addr) (l : List Int) (c : Nat) (w : World) (hr : RdI w A l) (h0 : 0 < l.length) (hm : l.length ≤ 1000) :
    Calls Try.prog 21 #[.slice A l.length c] w (RetR (ownIR w.heap.size) l w) := by
  obtain ⟨i0, hi0, hz0, hz1, hz2⟩ := info_parts Try.infoInt
  obtain ⟨b, o, rfl, hb, hc⟩ := hr (by intro h; simp [h] at h0)
  have Hc := hid hc; have Hm := hid hm; have H0 := hid h0; clear hc hr hm h0
  go_enter Try.func21, Try.ntmps21
  have hnil : ∀ w', (binOp .eql 26 (.slice (some ⟨b, o, none⟩) l.length c) (.slice none 0 0)).run Try.prog w' = .ok (.bool false) w' := fun w' => Go.Lib.run_eql_slice_some_nil w' _ _ _ Try.underlying26
  have hH := H0.out
  go_wp2_with (at_builtin; refine wpList_append_grows _ rfl (.tmp 5) (.tmp 6) _ rfl 3 i0 (.int .i64 0) 1 8 Try.underlying26 hi0 hz0 hz1 hz2 rfl (by decide) (some ⟨w.heap.size, 0, none⟩) 0 0 [] rfl (fun h => by cases h) rfl (fun _ _ j u h => by simp at h) ⟨b, o, none⟩ l.length c (ints l) rfl (by simp [ints]) (fun j u hj => ?_) (ints_one l) (by have := H0.out; omega) (by have := Hm.out; unfold maxLen; omega) (by have := Hm.out; omega) ?_; rotate_left; intro v8 w2 own8 g8)
  · have hown : OwnI w2 (w.heap.size + 1) v8 l := by unfold OwnI; simpa using own8
    have Hown := hid hown
    have hU : Up w w2 := Below.grown ((Up.refl w).alloc (Obj.cells #[] 3)) g8 (by simp) (fun j hj => by cases hj)
    clear own8 hown
    go_ret
    exact RetR.mk l hU rfl (rel := ownIR w.heap.size) (World.ownsRow.mono Hown.out (Nat.le_succ _))
  · refine ints_cells (w := w.alloc _) (fun k hk => ?_) j u hj
    have hl := ((Up.refl w).alloc (Obj.cells #[] 3))
    exact (Below.cell hl (p := ⟨b, o + k, none⟩) hb).trans (Hc.out k hk)
theorem pathG_bad {s : Sy} {e : Nat} {x q : List Int} {l L : List (List Int)} (h : ypointF s x q = .error e) : preB L (pathG s (q :: l) x) = .error e := by
  unfold pathG; rw [h]; rfl
theorem pathG_good {s : Sy} {x y q : List Int} {l L : List (List Int)} (h : ypointF s x q = .ok y) : preB L (pathG s (q :: l) x) = preB (L ++ [x]) (pathG s l y) := by
  conv => lhs; unfold pathG
  rw [h]; dsimp only
  cases pathG s l y <;> simp [preB]
theorem ldrop (l : List (List Int)) (k : Nat) (h : k < l.length) : l.drop k = (l[k]?.getD []) :: l.drop (k + 1) := by
  rw [List.drop_eq_getElem_cons h, List.getElem?_eq_getElem h]; rfl
/-- Why a path is refused, or that it is fine till the steps. -/
theorem path_cases (s : Sy) (x : List Int) (push : List (List Int)) : (20 < push.length ∧ pathF s x push = .error 4) ∨ (push.length ≤ 20 ∧ ((∃ e, ycheckF s = some e ∧ pathF s x push = .error e) ∨
    (ycheckF s = none ∧ ((x.length ≠ s.next.length ∧ pathF s x push = .error 3) ∨ (x.length = s.next.length ∧ Good s ∧ pathF s x push = preB [] (pathG s push x)))))) := by
  unfold pathF
  by_cases h : 20 < push.length
  · rw [if_pos h]; exact .inl ⟨h, rfl⟩
  · rw [if_neg h]
    refine .inr ⟨by omega, ?_⟩
    cases hc : ycheckF s with
    | some e => exact .inl ⟨e, rfl, rfl⟩
    | none =>
      refine .inr ⟨rfl, ?_⟩
      simp only [orErr]
      by_cases hl : x.length = s.next.length
      · rw [if_neg (by omega)]
        exact .inr ⟨hl, ycheck_good hc, (preB_nil _).symm⟩
      · rw [if_pos hl]
        exact .inl ⟨hl, rfl⟩
theorem ilen {l : List Int} {n : Nat} (h : l.length = n) {m : Nat} (h2 : n ≤ m) : l.length ≤ m := by omega
set_option maxRecDepth 100000 in
set_option maxHeartbeats 4000000 in
theorem path_any (A B C D : Option Addr) (s : Sy) (x : List Int) (push : List (List Int)) (c d e f : Nat) (w : World) (hY : RY w A B s) (hx : RdI w C x) (hp : RdII w D push) (hpl : push.length ≤ 9223372036854775807) :
    Calls Try.prog 7 #[.agg #[.slice A s.next.length c, .slice B s.push.length d], .slice C x.length e, .slice D push.length f] w (RetR (rlNE RdI) (pathF s x push) w) := by
  have HY := hid hY; have Hx := hid hx; have Hp := hid hp; clear hY hx hp
  rcases path_cases s x push with ⟨hn, hr⟩ | ⟨hn, ⟨e0, hrd, hr⟩ | ⟨hrd, ⟨hl, hr⟩ | ⟨hl, hs, hr⟩⟩⟩
  · have e1 : decide (20 < (push.length : Int)) = true := decide_eq_true (by omega)
    rw [hr]
    clear hn hr
    go_enter Try.func7, Try.ntmps7
    go_wp2
    go_ret2
    refine RetR.mk (.error 4) ?_ rfl (rel := rlNE _) rfl
    (repeat (first | (with_reducible exact Up.refl _) | (with_reducible assumption) | (with_reducible refine Up.alloc ?_ _) | (with_reducible refine Up.drew ?_) | ((with_reducible refine Up.set ?_ ?_ _); rotate_left; focus (first | omega | (simp; done) | (simp; omega))) | (with_reducible refine Up.drewN ?_ _) | (with_reducible refine Up.call ?_ (by with_reducible assumption))))
  · have e1 : decide (20 < (push.length : Int)) = false := decide_eq_false (by omega)
    rw [hr]
    have Hrd := hid hrd
    clear hrd hr hn
    go_enter Try.func7, Try.ntmps7
    go_wp2_with (first
                        | ((go_at_call 20; (with_reducible refine (ycheck_any _ _ s _ _ _ (HY.out.up (by (repeat (first | (with_reducible exact Up.refl _) | (with_reducible assumption) | (with_reducible refine Up.alloc ?_ _) | (with_reducible refine Up.drew ?_) | ((with_reducible refine Up.set ?_ ?_ _); rotate_left; focus (first | omega | (simp; done) | (simp; omega))) | (with_reducible refine Up.drewN ?_ _) | (with_reducible refine Up.call ?_ (by with_reducible assumption))))))).mono ?_); rintro e w1 ⟨x1, hx1, rfl, hb1⟩ <;> (rw [Hrd.out] at hx1; subst hx1)) <;> (have hle := Up.le hb1; (try simp only [World.size_alloc, World.size_setCell, World.size_drew, World.heap_drewN] at hle); (try (have _ : w.heap.size < w1.heap.size := (by omega); (try (apply fk hb1 (w.heap.size); (focus (go_simp; rfl)); (focus (intro o; go_simp)); intro z; (try clear f_0); have f_0 := z; clear z)); (try (apply ck hb1 (w.heap.size) 0; (focus (go_simp; rfl)); intro z; (try clear c_0_0); have c_0_0 := z; clear z; (try (apply ck hb1 (w.heap.size) 1; (focus (go_simp; rfl)); intro z; (try clear c_0_1); have c_0_1 := z; clear z)))); (try (have _ : w.heap.size + 1 < w1.heap.size := (by omega); (try (apply fk hb1 (w.heap.size + 1); (focus (go_simp; rfl)); (focus (intro o; go_simp)); intro z; (try clear f_1); have f_1 := z; clear z)); (try (apply ck hb1 (w.heap.size + 1) 0; (focus (go_simp; rfl)); intro z; (try clear c_1_0); have c_1_0 := z; clear z; (try (apply ck hb1 (w.heap.size + 1) 1; (focus (go_simp; rfl)); intro z; (try clear c_1_1); have c_1_1 := z; clear z)))))))); clear hle; (try (apply old_keep (w0 := w) (w := w1); (focus ((repeat (first | (with_reducible exact Up.refl _) | (with_reducible assumption) | (with_reducible refine Up.alloc ?_ _) | (with_reducible refine Up.drew ?_) | ((with_reducible refine Up.set ?_ ?_ _); rotate_left; focus (first | omega | (simp; done) | (simp; omega))) | (with_reducible refine Up.drewN ?_ _) | (with_reducible refine Up.call ?_ (by with_reducible assumption)))))); intro y z; (try clear hUp); (try clear hOld); have hUp := y; have hOld := z; clear y z)))))
    go_ret2
    refine RetR.mk (.error e0) ?_ rfl (rel := rlNE _) rfl
    (repeat (first | (with_reducible exact Up.refl _) | (with_reducible assumption) | (with_reducible refine Up.alloc ?_ _) | (with_reducible refine Up.drew ?_) | ((with_reducible refine Up.set ?_ ?_ _); rotate_left; focus (first | omega | (simp; done) | (simp; omega))) | (with_reducible refine Up.drewN ?_ _) | (with_reducible refine Up.call ?_ (by with_reducible assumption))))
  · have e1 : decide (20 < (push.length : Int)) = false := decide_eq_false (by omega)
    have e2 : ((x.length : Int) != (s.next.length : Int)) = true := by simp; omega
    rw [hr]
    have Hrd := hid hrd
    clear hrd hr hn hl
    go_enter Try.func7, Try.ntmps7
    go_wp2_with (first
                        | ((go_at_call 20; (with_reducible refine (ycheck_any _ _ s _ _ _ (HY.out.up (by (repeat (first | (with_reducible exact Up.refl _) | (with_reducible assumption) | (with_reducible refine Up.alloc ?_ _) | (with_reducible refine Up.drew ?_) | ((with_reducible refine Up.set ?_ ?_ _); rotate_left; focus (first | omega | (simp; done) | (simp; omega))) | (with_reducible refine Up.drewN ?_ _) | (with_reducible refine Up.call ?_ (by with_reducible assumption))))))).mono ?_); rintro e w1 ⟨x1, hx1, rfl, hb1⟩ <;> (rw [Hrd.out] at hx1; subst hx1)) <;> (have hle := Up.le hb1; (try simp only [World.size_alloc, World.size_setCell, World.size_drew, World.heap_drewN] at hle); (try (have _ : w.heap.size < w1.heap.size := (by omega); (try (apply fk hb1 (w.heap.size); (focus (go_simp; rfl)); (focus (intro o; go_simp)); intro z; (try clear f_0); have f_0 := z; clear z)); (try (apply ck hb1 (w.heap.size) 0; (focus (go_simp; rfl)); intro z; (try clear c_0_0); have c_0_0 := z; clear z; (try (apply ck hb1 (w.heap.size) 1; (focus (go_simp; rfl)); intro z; (try clear c_0_1); have c_0_1 := z; clear z)))); (try (have _ : w.heap.size + 1 < w1.heap.size := (by omega); (try (apply fk hb1 (w.heap.size + 1); (focus (go_simp; rfl)); (focus (intro o; go_simp)); intro z; (try clear f_1); have f_1 := z; clear z)); (try (apply ck hb1 (w.heap.size + 1) 0; (focus (go_simp; rfl)); intro z; (try clear c_1_0); have c_1_0 := z; clear z; (try (apply ck hb1 (w.heap.size + 1) 1; (focus (go_simp; rfl)); intro z; (try clear c_1_1); have c_1_1 := z; clear z)))))))); clear hle; (try (apply old_keep (w0 := w) (w := w1); (focus ((repeat (first | (with_reducible exact Up.refl _) | (with_reducible assumption) | (with_reducible refine Up.alloc ?_ _) | (with_reducible refine Up.drew ?_) | ((with_reducible refine Up.set ?_ ?_ _); rotate_left; focus (first | omega | (simp; done) | (simp; omega))) | (with_reducible refine Up.drewN ?_ _) | (with_reducible refine Up.call ?_ (by with_reducible assumption)))))); intro y z; (try clear hUp); (try clear hOld); have hUp := y; have hOld := z; clear y z)))))
    go_ret2
    refine RetR.mk (.error 3) ?_ rfl (rel := rlNE _) rfl
    (repeat (first | (with_reducible exact Up.refl _) | (with_reducible assumption) | (with_reducible refine Up.alloc ?_ _) | (with_reducible refine Up.drew ?_) | ((with_reducible refine Up.set ?_ ?_ _); rotate_left; focus (first | omega | (simp; done) | (simp; omega))) | (with_reducible refine Up.drewN ?_ _) | (with_reducible refine Up.call ?_ (by with_reducible assumption))))
  · have e1 : decide (20 < (push.length : Int)) = false := decide_eq_false (by omega)
    have e2 : ((x.length : Int) != (s.next.length : Int)) = false := by simp; omega
    rw [hr]
    have Hm := hid hn
    have Hrd := hid hrd; have HS := hid hs; have Hl := hid hl
    obtain ⟨i0, hi0, hz0, hz1, hz2⟩ := info_parts Try.infoInts
    clear hrd hr hn hs hl
    go_enter Try.func7, Try.ntmps7
    go_wp2_with (first
                        | ((go_at_call 20; (with_reducible refine (ycheck_any _ _ s _ _ _ (HY.out.up (by (repeat (first | (with_reducible exact Up.refl _) | (with_reducible assumption) | (with_reducible refine Up.alloc ?_ _) | (with_reducible refine Up.drew ?_) | ((with_reducible refine Up.set ?_ ?_ _); rotate_left; focus (first | omega | (simp; done) | (simp; omega))) | (with_reducible refine Up.drewN ?_ _) | (with_reducible refine Up.call ?_ (by with_reducible assumption))))))).mono ?_); rintro e w1 ⟨x1, hx1, rfl, hb1⟩ <;> (rw [Hrd.out] at hx1; subst hx1)) <;> (have hle := Up.le hb1; (try simp only [World.size_alloc, World.size_setCell, World.size_drew, World.heap_drewN] at hle); (try (have _ : w.heap.size < w1.heap.size := (by omega); (try (apply fk hb1 (w.heap.size); (focus (go_simp; rfl)); (focus (intro o; go_simp)); intro z; (try clear f_0); have f_0 := z; clear z)); (try (apply ck hb1 (w.heap.size) 0; (focus (go_simp; rfl)); intro z; (try clear c_0_0); have c_0_0 := z; clear z; (try (apply ck hb1 (w.heap.size) 1; (focus (go_simp; rfl)); intro z; (try clear c_0_1); have c_0_1 := z; clear z)))); (try (have _ : w.heap.size + 1 < w1.heap.size := (by omega); (try (apply fk hb1 (w.heap.size + 1); (focus (go_simp; rfl)); (focus (intro o; go_simp)); intro z; (try clear f_1); have f_1 := z; clear z)); (try (apply ck hb1 (w.heap.size + 1) 0; (focus (go_simp; rfl)); intro z; (try clear c_1_0); have c_1_0 := z; clear z; (try (apply ck hb1 (w.heap.size + 1) 1; (focus (go_simp; rfl)); intro z; (try clear c_1_1); have c_1_1 := z; clear z)))))))); clear hle; (try (apply old_keep (w0 := w) (w := w1); (focus ((repeat (first | (with_reducible exact Up.refl _) | (with_reducible assumption) | (with_reducible refine Up.alloc ?_ _) | (with_reducible refine Up.drew ?_) | ((with_reducible refine Up.set ?_ ?_ _); rotate_left; focus (first | omega | (simp; done) | (simp; omega))) | (with_reducible refine Up.drewN ?_ _) | (with_reducible refine Up.call ?_ (by with_reducible assumption)))))); intro y z; (try clear hUp); (try clear hOld); have hUp := y; have hOld := z; clear y z))))
                        | ((go_at_call 21; (with_reducible refine (iclone_any _ x _ _ (Hx.out.up (by (repeat (first | (with_reducible exact Up.refl _) | (with_reducible assumption) | (with_reducible refine Up.alloc ?_ _) | (with_reducible refine Up.drew ?_) | ((with_reducible refine Up.set ?_ ?_ _); rotate_left; focus (first | omega | (simp; done) | (simp; omega))) | (with_reducible refine Up.drewN ?_ _) | (with_reducible refine Up.call ?_ (by with_reducible assumption)))))) (by have := HS.out.pos; have := Hl.out; omega) (ilen Hl.out (by have := HS.out.few; omega))).mono ?_); rintro e w2 ⟨x2, v2, rfl, rfl, hv2, hb2⟩ <;> (obtain ⟨A2, c2, rfl, hrd2, hc2⟩ := OwnI.rd hv2; have Hlt2 := hid (fun b o (e : A2 = some ⟨b, o, none⟩) => (OwnI.lt hv2 b (by rw [e]; rfl)).2); have Hrd2 := hid hrd2; have Hc2 := hid hc2; clear hv2 hrd2 hc2)) <;> (have hle := Up.le hb2; (try simp only [World.size_alloc, World.size_setCell, World.size_drew, World.heap_drewN] at hle); (try (have _ : w.heap.size < w2.heap.size := (by omega); (try (apply fk hb2 (w.heap.size); (focus (go_simp; rfl)); (focus (intro o; go_simp)); intro z; (try clear f_0); have f_0 := z; clear z)); (try (apply ck hb2 (w.heap.size) 0; (focus (go_simp; rfl)); intro z; (try clear c_0_0); have c_0_0 := z; clear z; (try (apply ck hb2 (w.heap.size) 1; (focus (go_simp; rfl)); intro z; (try clear c_0_1); have c_0_1 := z; clear z)))); (try (have _ : w.heap.size + 1 < w2.heap.size := (by omega); (try (apply fk hb2 (w.heap.size + 1); (focus (go_simp; rfl)); (focus (intro o; go_simp)); intro z; (try clear f_1); have f_1 := z; clear z)); (try (apply ck hb2 (w.heap.size + 1) 0; (focus (go_simp; rfl)); intro z; (try clear c_1_0); have c_1_0 := z; clear z; (try (apply ck hb2 (w.heap.size + 1) 1; (focus (go_simp; rfl)); intro z; (try clear c_1_1); have c_1_1 := z; clear z)))))))); (try (have _ : w1.heap.size < w2.heap.size := (by omega); (try (apply fk hb2 (w1.heap.size); (focus (go_simp; rfl)); (focus (intro o; go_simp)); intro z; (try clear f1_0); have f1_0 := z; clear z)); (try (apply ck hb2 (w1.heap.size) 0; (focus (go_simp; rfl)); intro z; (try clear c1_0_0); have c1_0_0 := z; clear z; (try (apply ck hb2 (w1.heap.size) 1; (focus (go_simp; rfl)); intro z; (try clear c1_0_1); have c1_0_1 := z; clear z)))); (try (have _ : w1.heap.size + 1 < w2.heap.size := (by omega); (try (apply fk hb2 (w1.heap.size + 1); (focus (go_simp; rfl)); (focus (intro o; go_simp)); intro z; (try clear f1_1); have f1_1 := z; clear z)); (try (apply ck hb2 (w1.heap.size + 1) 0; (focus (go_simp; rfl)); intro z; (try clear c1_1_0); have c1_1_0 := z; clear z; (try (apply ck hb2 (w1.heap.size + 1) 1; (focus (go_simp; rfl)); intro z; (try clear c1_1_1); have c1_1_1 := z; clear z)))))))); clear hle; (try (apply old_keep (w0 := w) (w := w2); (focus ((repeat (first | (with_reducible exact Up.refl _) | (with_reducible assumption) | (with_reducible refine Up.alloc ?_ _) | (with_reducible refine Up.drew ?_) | ((with_reducible refine Up.set ?_ ?_ _); rotate_left; focus (first | omega | (simp; done) | (simp; omega))) | (with_reducible refine Up.drewN ?_ _) | (with_reducible refine Up.call ?_ (by with_reducible assumption)))))); intro y z; (try clear hUp); (try clear hOld); have hUp := y; have hOld := z; clear y z)))))
    have Hown0 := hid (OwnR.one (R := RdI) (T := 26) (base := w.heap.size + 1) RdI.up (by have := Up.le hb1; have := Up.le hb2; simp at *; omega) Hrd2.out Hc2.out Hlt2.out)
    go_loopw [9, 35] (fun v i wr => ∃ (k : Nat) (L : List (List Int)) (cx : List Int), k ≤ push.length ∧ i = .int .i64 k ∧ Hid (preB [] (pathG s push x) = preB L (pathG s (push.drop k) cx)) ∧ Hid (L.length = k) ∧ Hid (OwnR 26 RdI wr (w.heap.size + 1) v (L ++ [cx])) ∧ Up w wr ∧
      (Cf wr w.heap.size 0 (.slice A s.next.length c) ∧ Cf wr w.heap.size 1 (.slice B s.push.length d))) (fun _ i _ => push.length - (intOf i).toNat)
    case atStart =>
      refine ⟨0, [], x, by omega, rfl, rfl, rfl, Hown0.out, ?_, ⟨by go_simp, by go_simp⟩, ⟨by go_simp, by go_simp⟩⟩
      (repeat (first | (with_reducible exact Up.refl _) | (with_reducible assumption) | (with_reducible refine Up.alloc ?_ _) | (with_reducible refine Up.drew ?_) | ((with_reducible refine Up.set ?_ ?_ _); rotate_left; focus (first | omega | (simp; done) | (simp; omega))) | (with_reducible refine Up.drewN ?_ _) | (with_reducible refine Up.call ?_ (by with_reducible assumption))))
    case round =>
      obtain ⟨k, L, cx, hk, rfl, H, HL, Hown, hU, C0, C1⟩ := hrel
      have gr := (bcell hU).1
      have hle := hU.le
      obtain ⟨c0, g0⟩ := C0
      obtain ⟨c1, g1⟩ := C1
      have l0 := World.block_lt_of_cell? wr _ c0
      dsimp only at l0
      by_cases hlt : k < push.length
      · obtain ⟨g, o, N, cap, A3, c3, rfl, hN, hg1, hg2, j1, j2, j3⟩ := Hown.out.last HL.out
        obtain ⟨b6, o6, rfl, lb6, cc6⟩ := (Hp.out).at (by omega)
        obtain ⟨A6, c6, q1, q2, q3⟩ := cc6 k hlt
        have j6 := (gr _ _ lb6).trans q1
        have _ : b6 < wr.heap.size := by omega
        have Hj3 := hid j3; have Hq3 := hid q3
        have Hdr := hid (ldrop push k hlt)
        have hdk : decide ((k : Int) < (push.length : Int)) = true := by simp; omega
        have hk0 : (0 : Int) ≤ (k : Int) := by omega
        have hkN : (k : Int) < (N : Int) := by omega
        have hkN2 : k < N := by omega
        have hkp : (k : Int) < (push.length : Int) := by omega
        have hk9 : (k : Int) < 20 := by have := Hm.out; omega
        have Hlt := hid hlt
        generalize push[k]?.getD [] = q at *
        clear gr hlt j2 j3 hN cc6 q1 q2 q3
        cases hnx : ypointF s cx q with
        | error n2 =>
          have Hnx := hid hnx; clear hnx
          go_wp2_with fail
          go_region_law (go_simp; (go_at_call 22; refine (ypoint_any _ _ _ _ s cx q _ _ _ _ _ (HY.out.up (by (repeat (first | (with_reducible exact Up.refl _) | (with_reducible assumption) | (with_reducible refine Up.alloc ?_ _) | (with_reducible refine Up.drew ?_) | ((with_reducible refine Up.set ?_ ?_ _); rotate_left; focus (first | omega | (simp; done) | (simp; omega))) | (with_reducible refine Up.drewN ?_ _) | (with_reducible refine Up.call ?_ (by with_reducible assumption)))))) (Hj3.out.up (by (repeat (first | (with_reducible exact Up.refl _) | (with_reducible assumption) | (with_reducible refine Up.alloc ?_ _) | (with_reducible refine Up.drew ?_) | ((with_reducible refine Up.set ?_ ?_ _); rotate_left; focus (first | omega | (simp; done) | (simp; omega))) | (with_reducible refine Up.drewN ?_ _) | (with_reducible refine Up.call ?_ (by with_reducible assumption)))))) (Hq3.out.up (by (repeat (first | (with_reducible exact Up.refl _) | (with_reducible assumption) | (with_reducible refine Up.alloc ?_ _) | (with_reducible refine Up.drew ?_) | ((with_reducible refine Up.set ?_ ?_ _); rotate_left; focus (first | omega | (simp; done) | (simp; omega))) | (with_reducible refine Up.drewN ?_ _) | (with_reducible refine Up.call ?_ (by with_reducible assumption))))))).mono ?_; rintro e w4 ⟨x4, v4, hx4, rfl, hv4, hb4⟩); rw [Hnx.out] at hx4; subst hx4; obtain rfl := ilNE_error hv4; clear hv4)
          all_goals go_wp2
          all_goals
            go_ret2
            refine RetR.mk (.error n2) ?_ ?_ (rel := rlNE _) rfl
            · (repeat (first | (with_reducible exact Up.refl _) | (with_reducible assumption) | (with_reducible refine Up.alloc ?_ _) | (with_reducible refine Up.drew ?_) | ((with_reducible refine Up.set ?_ ?_ _); rotate_left; focus (first | omega | (simp; done) | (simp; omega))) | (with_reducible refine Up.drewN ?_ _) | (with_reducible refine Up.call ?_ (by with_reducible assumption))))
            · rw [H.out, Hdr.out]; exact pathG_bad Hnx.out
        | ok nx =>
          have Hnx := hid hnx; clear hnx
          go_wp2_with fail
          go_region_law (go_simp; (go_at_call 22; refine (ypoint_any _ _ _ _ s cx q _ _ _ _ _ (HY.out.up (by (repeat (first | (with_reducible exact Up.refl _) | (with_reducible assumption) | (with_reducible refine Up.alloc ?_ _) | (with_reducible refine Up.drew ?_) | ((with_reducible refine Up.set ?_ ?_ _); rotate_left; focus (first | omega | (simp; done) | (simp; omega))) | (with_reducible refine Up.drewN ?_ _) | (with_reducible refine Up.call ?_ (by with_reducible assumption)))))) (Hj3.out.up (by (repeat (first | (with_reducible exact Up.refl _) | (with_reducible assumption) | (with_reducible refine Up.alloc ?_ _) | (with_reducible refine Up.drew ?_) | ((with_reducible refine Up.set ?_ ?_ _); rotate_left; focus (first | omega | (simp; done) | (simp; omega))) | (with_reducible refine Up.drewN ?_ _) | (with_reducible refine Up.call ?_ (by with_reducible assumption)))))) (Hq3.out.up (by (repeat (first | (with_reducible exact Up.refl _) | (with_reducible assumption) | (with_reducible refine Up.alloc ?_ _) | (with_reducible refine Up.drew ?_) | ((with_reducible refine Up.set ?_ ?_ _); rotate_left; focus (first | omega | (simp; done) | (simp; omega))) | (with_reducible refine Up.drewN ?_ _) | (with_reducible refine Up.call ?_ (by with_reducible assumption))))))).mono ?_; rintro e w4 ⟨x4, v4, hx4, rfl, hv4, hb4⟩); rw [Hnx.out] at hx4; subst hx4; obtain ⟨A5, c5, rfl, hrd5, hc5, hn5⟩ := ilNE_ok hv4; have Hrd5 := hid hrd5; have Hc5 := hid hc5; have Hn5 := hid (fun b o e => (show wr.heap.size ≤ b ∧ b < w4.heap.size from ⟨by have := (hn5 b o e).1; simp at this; omega, (hn5 b o e).2⟩)); clear hv4 hrd5 hn5 hc5; have hbr : Up wr w4 := (by (repeat (first | (with_reducible exact Up.refl _) | (with_reducible assumption) | (with_reducible refine Up.alloc ?_ _) | (with_reducible refine Up.drew ?_) | ((with_reducible refine Up.set ?_ ?_ _); rotate_left; focus (first | omega | (simp; done) | (simp; omega))) | (with_reducible refine Up.drewN ?_ _) | (with_reducible refine Up.call ?_ (by with_reducible assumption))))); obtain ⟨hc4, hf4⟩ := bcell hbr; clear hbr; have _ : w.heap.size < w4.heap.size := (by have hle := Up.le hb4; first | omega | (simp at hle; omega) | (simp at hle; done)))
          all_goals
            have UA : Up wr (w4.alloc (Obj.cells #[Value.slice A5 nx.length c5] 26)) := by (repeat (first | (with_reducible exact Up.refl _) | (with_reducible assumption) | (with_reducible refine Up.alloc ?_ _) | (with_reducible refine Up.drew ?_) | ((with_reducible refine Up.set ?_ ?_ _); rotate_left; focus (first | omega | (simp; done) | (simp; omega))) | (with_reducible refine Up.drewN ?_ _) | (with_reducible refine Up.call ?_ (by with_reducible assumption))))
            obtain ⟨vs, p1, p2, p3⟩ := (OwnR.up keepsI Hown.out UA).parts
            have UW : Up w (w4.alloc (Obj.cells #[Value.slice A5 nx.length c5] 26)) := by (repeat (first | (with_reducible exact Up.refl _) | (with_reducible assumption) | (with_reducible refine Up.alloc ?_ _) | (with_reducible refine Up.drew ?_) | ((with_reducible refine Up.set ?_ ?_ _); rotate_left; focus (first | omega | (simp; done) | (simp; omega))) | (with_reducible refine Up.drewN ?_ _) | (with_reducible refine Up.call ?_ (by with_reducible assumption))))
            have Hp3 := hid p3; have HUW := hid UW; have HUA := hid UA
            have C0 : Cf (w4.alloc (Obj.cells #[Value.slice A5 nx.length c5] 26)) w.heap.size 0 (.slice A s.next.length c) := ⟨by go_simp, by go_simp⟩
            have C1 : Cf (w4.alloc (Obj.cells #[Value.slice A5 nx.length c5] 26)) w.heap.size 1 (.slice B s.push.length d) := ⟨by go_simp, by go_simp⟩
            have HC0 := hid C0; have HC1 := hid C1
            clear p3 UW UA C0 C1
            go_wp2_with (at_builtin; refine wpList_append_own_at _ rfl (.tmp 53) (.tmp 55) _ rfl (w.heap.size + 1) 26 i0 (.slice none 0 0) 1 24 Try.underlying27 hi0 hz0 hz1 hz2 rfl (by decide) _ _ _ rfl p1 ⟨w4.heap.size, 0, none⟩ 1 1 [.slice A5 nx.length c5] rfl rfl (cell_one_new _ _ _) (by simp [Value.oneCell']) (by have := HL.out; have := Hm.out; have := Hlt.out; unfold maxLen; simp; omega) (by have := HL.out; have := Hm.out; have := Hlt.out; simp; omega) (by simp; omega) ?_; intro v8 w5 own8 g8 _ at8)
            have hne : ∀ b : Nat, wr.heap.size ≤ b → (Value.slice (some ⟨g, o, none⟩) N cap).ownBlock ≠ some b := fun b hb e => by injection e with e; dsimp only at e; omega
            have hn0 : (Value.slice (some ⟨g, o, none⟩) N cap).ownBlock ≠ some w.heap.size := fun e => by injection e with e; dsimp only at e; omega
            have Hne := hid hne; have Hn0 := hid hn0
            clear hne hn0
            go_roundw
            case rel =>
              refine ⟨k + 1, L ++ [cx], nx, by have := Hlt.out; omega, by go_num, ?_, ?_, ?_, ?_, Cf.keep HC0.out g8 Hn0.out, Cf.keep HC1.out g8 Hn0.out⟩
              · show _ = _
                rw [H.out, Hdr.out]; exact pathG_good Hnx.out
              · have := HL.out
                show _ = _
                simp; omega
              · exact OwnR.snoc keepsI Hp3.out (RdI.up Hrd5.out ((Up.refl w4).alloc _)) Hc5.out (fun b o e => ⟨by have := (Hn5.out b o e).2; simp; omega, Hne.out b (Hn5.out b o e).1⟩) p2 own8 g8 at8
              · exact Below.grown HUW.out g8 HUW.out.le (fun j hj => by injection hj with hj; dsimp only at hj; omega)
            case measure => have := Hlt.out; simp [intOf]; omega
      · obtain rfl : k = push.length := by omega
        obtain ⟨A4, c4, rfl, hrd4, hc4⟩ := Hown.out.rd
        have Hrd4 := hid hrd4
        clear gr hrd4
        go_wp2
        go_ret2
        refine RetR.mk (.ok (L ++ [cx])) hU ?_ (rel := rlNE _) ⟨A4, c4, rfl, Hrd4.out, hc4⟩
        rw [H.out, List.drop_length]
        simp [pathG, preB]
end Go.Proofs.Ytknkpjfoaijaoaa
