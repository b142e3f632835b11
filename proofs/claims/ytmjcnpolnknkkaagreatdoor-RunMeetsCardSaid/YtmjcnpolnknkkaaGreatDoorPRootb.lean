/- The walks of root.Find, May, Sure. -/
import Derived.Test.YtmjcnpolnknkkaaGreatDoorPRoot
import Derived.Test.YtmjcnpolnknkkaaGreatDoorPSpan
set_option linter.unusedVariables false
set_option linter.unusedSimpArgs false
namespace Go.Proofs.YtmjcnpolnknkkaaGreatDoor
open Go.RowKit

/-- What find comes to that begins with nothing. -/
def frE (w : World) : Except Nat (List Sp) → Value → Prop
  | .ok l, v => ∃ A c, v = .tuple #[.slice A l.length c, .nilIface] ∧ RdS w A l ∧ l.length ≤ c
  | .error n, v => ∃ v', v = .tuple #[v', .iface 74 (.int .i64 n)]
theorem frE_ok {w : World} {l : List Sp} {v : Value} (h : frE w (.ok l) v) : ∃ A c, v = .tuple #[.slice A l.length c, .nilIface] ∧ RdS w A l ∧ l.length ≤ c := h
theorem frE_error {w : World} {n : Nat} {v : Value} (h : frE w (.error n) v) : ∃ v', v = .tuple #[v', .iface 74 (.int .i64 n)] := h
theorem up_of_grown {w w' : World} (h : w.grownBy w' none) : Up w w' := ⟨h.os, h.tape, h.output, h.size, fun k hk => h.block k hk (by simp)⟩
theorem find0_any (A : Option Addr) (p : List Int) (c : Nat) (lo hi least : Int) (w : World) (h0 : 0 < p.length) (h5 : p.length ≤ 5) (hcap : p.length ≤ c) (hp : ∀ n ∈ p, M n) (hx : Rt ⟨lo, hi⟩) (hl1 : 1 ≤ least) (hl2 : least ≤ 1000000000) (hr : RdI w A p) :
    Calls Tryz.prog 204 #[.slice A p.length c, .agg #[.int .i64 lo, .int .i64 hi], .int .i64 least, .slice none 0 0] w (RetR frE (findG p least (hi - lo).toNat ⟨lo, hi⟩ []) w) := by
  have hA : ∀ b o, A = some ⟨b, o, none⟩ → b < w.heap.size := fun b o e => by
    obtain ⟨b', o', e2, hb, -⟩ := hr (by intro h; simp [h] at h0)
    rw [e] at e2
    injection e2 with e2
    injection e2 with e2
    omega
  refine (find_any w.heap.size A p c least h0 h5 hcap hp hA hl1 hl2 _ lo hi none 0 [] w (Nat.le_refl _) hx (by simp) (OwnS.nil _ _) (Nat.le_refl _) hr).mono ?_
  intro e w' hP
  cases hf : findG p least (hi - lo).toNat ⟨lo, hi⟩ [] with
  | error n =>
    rw [hf] at hP
    obtain ⟨hg, v', rfl⟩ := FindPost.err hP
    exact RetR.mk (.error n) (up_of_grown hg) rfl (rel := frE) ⟨v', rfl⟩
  | ok o =>
    rw [hf] at hP
    obtain ⟨hg, A', c', rfl, hown, -⟩ := FindPost.ok hP
    obtain ⟨A2, c2, hv, h1, h2⟩ := hown.rd
    injection hv with e1 e2 e3
    subst e1; subst e3
    exact RetR.mk (.ok o) (up_of_grown hg) rfl (rel := frE) ⟨_, _, rfl, h1, h2⟩
theorem findF_bad {p : List Int} {x : Sp} {least : Int} {e : Nat} (h : pbothF p x = some e) : findF p x least = .error e := by unfold findF; rw [h]; rfl
theorem findF_far {p : List Int} {x : Sp} {least : Int} (h : pbothF p x = none) (hl : least < 1 ∨ 1000000000 < least) : findF p x least = .error 1 := by unfold findF; rw [h]; simp only [orErr]; rw [if_pos hl]
theorem findF_go {p : List Int} {x : Sp} {least : Int} (h : pbothF p x = none) (hl : ¬ (least < 1 ∨ 1000000000 < least)) : findF p x least = findG p least (x.hi - x.lo).toNat x [] := by unfold findF; rw [h]; simp only [orErr]; rw [if_neg hl]
set_option maxRecDepth 100000 in
set_option maxHeartbeats 4000000 in
theorem Find_any (A : Option Addr) (p : List Int) (c : Nat) (lo hi least : Int) (w : World) (hcap : p.length ≤ c) (hr : RdI w A p) :
    Calls Tryz.prog 181 #[.slice A p.length c, .agg #[.int .i64 lo, .int .i64 hi], .int .i64 least] w (RetR slE (findF p ⟨lo, hi⟩ least) w) := by
  have Hr := hid hr; have Hcap := hid hcap; clear hr hcap
  cases hb : pbothF p ⟨lo, hi⟩ with
  | some e =>
    rw [findF_bad hb]
    have Hb := hid hb; clear hb
    go_enter Tryz.func181, Tryz.ntmps181
    go_wp2_with (first
                        | ((go_at_call 101; (with_reducible refine (pboth_any _ _ _ _ _ _ (Hr.out.up (by (repeat (first | (with_reducible exact Up.refl _) | (with_reducible assumption) | (with_reducible refine Up.alloc ?_ _) | (with_reducible refine Up.drew ?_) | ((with_reducible refine Up.set ?_ ?_ _); rotate_left; focus (first | omega | (simp; done) | (simp; omega))) | (with_reducible refine Up.drewN ?_ _) | (with_reducible refine Up.call ?_ (by with_reducible assumption))))))).mono ?_); rintro e w1 ⟨x1, hx1, rfl, hb1⟩ <;> (rw [Hb.out] at hx1; subst hx1)) <;> (have hle := Up.le hb1; (try simp only [World.size_alloc, World.size_setCell, World.size_drew, World.heap_drewN] at hle); (try (apply bk hb1 (w.heap.size); (focus (go_simp; rfl)); (focus (go_simp; rfl)); (focus (intro o; go_simp)); (try clear c_0_0 c_0_1 f_0); intro c_0_0 c_0_1 f_0 _; (try (apply bk hb1 (w.heap.size + 1); (focus (go_simp; rfl)); (focus (go_simp; rfl)); (focus (intro o; go_simp)); (try clear c_1_0 c_1_1 f_1); intro c_1_0 c_1_1 f_1 _; (try (apply bk hb1 (w.heap.size + 1 + 1); (focus (go_simp; rfl)); (focus (go_simp; rfl)); (focus (intro o; go_simp)); (try clear c_2_0 c_2_1 f_2); intro c_2_0 c_2_1 f_2 _; (try (apply bk hb1 (w.heap.size + 1 + 1 + 1); (focus (go_simp; rfl)); (focus (go_simp; rfl)); (focus (intro o; go_simp)); (try clear c_3_0 c_3_1 f_3); intro c_3_0 c_3_1 f_3 _)))))))); clear hle; (try (apply old_keep (w0 := w) (w := w1); (focus ((repeat (first | (with_reducible exact Up.refl _) | (with_reducible assumption) | (with_reducible refine Up.alloc ?_ _) | (with_reducible refine Up.drew ?_) | ((with_reducible refine Up.set ?_ ?_ _); rotate_left; focus (first | omega | (simp; done) | (simp; omega))) | (with_reducible refine Up.drewN ?_ _) | (with_reducible refine Up.call ?_ (by with_reducible assumption)))))); intro y z; (try clear hUp); (try clear hOld); have hUp := y; have hOld := z; clear y z)))))
    go_ret2
    refine RetR.mk (.error e) ?_ rfl (rel := slE) rfl
    (repeat (first | (with_reducible exact Up.refl _) | (with_reducible assumption) | (with_reducible refine Up.alloc ?_ _) | (with_reducible refine Up.drew ?_) | ((with_reducible refine Up.set ?_ ?_ _); rotate_left; focus (first | omega | (simp; done) | (simp; omega))) | (with_reducible refine Up.drewN ?_ _) | (with_reducible refine Up.call ?_ (by with_reducible assumption))))
  | none =>
    by_cases hl : least < 1 ∨ 1000000000 < least
    · rw [findF_far hb hl]
      have hor : (decide (least < 1) = true) ∨ (decide (least < 1) = false ∧ decide (1000000000 < least) = true) := by
        by_cases h : least < 1
        · exact .inl (decide_eq_true h)
        · exact .inr ⟨decide_eq_false h, decide_eq_true (by omega)⟩
      have Hb := hid hb; clear hb hl
      rcases hor with e1 | ⟨e1, e2⟩
      all_goals
        go_enter Tryz.func181, Tryz.ntmps181
        go_wp2_with (first
                        | ((go_at_call 101; (with_reducible refine (pboth_any _ _ _ _ _ _ (Hr.out.up (by (repeat (first | (with_reducible exact Up.refl _) | (with_reducible assumption) | (with_reducible refine Up.alloc ?_ _) | (with_reducible refine Up.drew ?_) | ((with_reducible refine Up.set ?_ ?_ _); rotate_left; focus (first | omega | (simp; done) | (simp; omega))) | (with_reducible refine Up.drewN ?_ _) | (with_reducible refine Up.call ?_ (by with_reducible assumption))))))).mono ?_); rintro e w1 ⟨x1, hx1, rfl, hb1⟩ <;> (rw [Hb.out] at hx1; subst hx1)) <;> (have hle := Up.le hb1; (try simp only [World.size_alloc, World.size_setCell, World.size_drew, World.heap_drewN] at hle); (try (apply bk hb1 (w.heap.size); (focus (go_simp; rfl)); (focus (go_simp; rfl)); (focus (intro o; go_simp)); (try clear c_0_0 c_0_1 f_0); intro c_0_0 c_0_1 f_0 _; (try (apply bk hb1 (w.heap.size + 1); (focus (go_simp; rfl)); (focus (go_simp; rfl)); (focus (intro o; go_simp)); (try clear c_1_0 c_1_1 f_1); intro c_1_0 c_1_1 f_1 _; (try (apply bk hb1 (w.heap.size + 1 + 1); (focus (go_simp; rfl)); (focus (go_simp; rfl)); (focus (intro o; go_simp)); (try clear c_2_0 c_2_1 f_2); intro c_2_0 c_2_1 f_2 _; (try (apply bk hb1 (w.heap.size + 1 + 1 + 1); (focus (go_simp; rfl)); (focus (go_simp; rfl)); (focus (intro o; go_simp)); (try clear c_3_0 c_3_1 f_3); intro c_3_0 c_3_1 f_3 _)))))))); clear hle; (try (apply old_keep (w0 := w) (w := w1); (focus ((repeat (first | (with_reducible exact Up.refl _) | (with_reducible assumption) | (with_reducible refine Up.alloc ?_ _) | (with_reducible refine Up.drew ?_) | ((with_reducible refine Up.set ?_ ?_ _); rotate_left; focus (first | omega | (simp; done) | (simp; omega))) | (with_reducible refine Up.drewN ?_ _) | (with_reducible refine Up.call ?_ (by with_reducible assumption)))))); intro y z; (try clear hUp); (try clear hOld); have hUp := y; have hOld := z; clear y z)))))
        go_ret2
        refine RetR.mk (.error 1) ?_ rfl (rel := slE) rfl
        (repeat (first | (with_reducible exact Up.refl _) | (with_reducible assumption) | (with_reducible refine Up.alloc ?_ _) | (with_reducible refine Up.drew ?_) | ((with_reducible refine Up.set ?_ ?_ _); rotate_left; focus (first | omega | (simp; done) | (simp; omega))) | (with_reducible refine Up.drewN ?_ _) | (with_reducible refine Up.call ?_ (by with_reducible assumption))))
    · rw [findF_go hb hl]
      have e1 : decide (least < 1) = false := decide_eq_false (by omega)
      have e2 : decide (1000000000 < least) = false := decide_eq_false (by omega)
      have L1 := hid (show 1 ≤ least by omega); have L2 := hid (show least ≤ 1000000000 by omega)
      have Hn := hid (pboth_none hb)
      have Hb := hid hb; clear hb hl
      dsimp only
      go_enter Tryz.func181, Tryz.ntmps181
      go_wp2_with (first
                        | ((go_at_call 101; (with_reducible refine (pboth_any _ _ _ _ _ _ (Hr.out.up (by (repeat (first | (with_reducible exact Up.refl _) | (with_reducible assumption) | (with_reducible refine Up.alloc ?_ _) | (with_reducible refine Up.drew ?_) | ((with_reducible refine Up.set ?_ ?_ _); rotate_left; focus (first | omega | (simp; done) | (simp; omega))) | (with_reducible refine Up.drewN ?_ _) | (with_reducible refine Up.call ?_ (by with_reducible assumption))))))).mono ?_); rintro e w1 ⟨x1, hx1, rfl, hb1⟩ <;> (rw [Hb.out] at hx1; subst hx1)) <;> (have hle := Up.le hb1; (try simp only [World.size_alloc, World.size_setCell, World.size_drew, World.heap_drewN] at hle); (try (apply bk hb1 (w.heap.size); (focus (go_simp; rfl)); (focus (go_simp; rfl)); (focus (intro o; go_simp)); (try clear c_0_0 c_0_1 f_0); intro c_0_0 c_0_1 f_0 _; (try (apply bk hb1 (w.heap.size + 1); (focus (go_simp; rfl)); (focus (go_simp; rfl)); (focus (intro o; go_simp)); (try clear c_1_0 c_1_1 f_1); intro c_1_0 c_1_1 f_1 _; (try (apply bk hb1 (w.heap.size + 1 + 1); (focus (go_simp; rfl)); (focus (go_simp; rfl)); (focus (intro o; go_simp)); (try clear c_2_0 c_2_1 f_2); intro c_2_0 c_2_1 f_2 _; (try (apply bk hb1 (w.heap.size + 1 + 1 + 1); (focus (go_simp; rfl)); (focus (go_simp; rfl)); (focus (intro o; go_simp)); (try clear c_3_0 c_3_1 f_3); intro c_3_0 c_3_1 f_3 _)))))))); clear hle; (try (apply old_keep (w0 := w) (w := w1); (focus ((repeat (first | (with_reducible exact Up.refl _) | (with_reducible assumption) | (with_reducible refine Up.alloc ?_ _) | (with_reducible refine Up.drew ?_) | ((with_reducible refine Up.set ?_ ?_ _); rotate_left; focus (first | omega | (simp; done) | (simp; omega))) | (with_reducible refine Up.drewN ?_ _) | (with_reducible refine Up.call ?_ (by with_reducible assumption)))))); intro y z; (try clear hUp); (try clear hOld); have hUp := y; have hOld := z; clear y z))))
                        | ((go_at_call 204; (with_reducible refine (find0_any _ _ _ _ _ _ _ Hn.out.1 Hn.out.2.1 Hcap.out Hn.out.2.2.1 Hn.out.2.2.2 L1.out L2.out (Hr.out.up (by (repeat (first | (with_reducible exact Up.refl _) | (with_reducible assumption) | (with_reducible refine Up.alloc ?_ _) | (with_reducible refine Up.drew ?_) | ((with_reducible refine Up.set ?_ ?_ _); rotate_left; focus (first | omega | (simp; done) | (simp; omega))) | (with_reducible refine Up.drewN ?_ _) | (with_reducible refine Up.call ?_ (by with_reducible assumption))))))).mono ?_); rintro e w2 ⟨(e2|x2), v2, hx2, rfl, hv2, hb2⟩ <;> (first | (obtain ⟨A2, c2, rfl, hrd2, hc2⟩ := frE_ok hv2; have Hrd2 := hid hrd2; have Hc2 := hid hc2; clear hv2 hrd2 hc2) | (obtain ⟨v', rfl⟩ := frE_error hv2; clear hv2))) <;> (have hle := Up.le hb2; (try simp only [World.size_alloc, World.size_setCell, World.size_drew, World.heap_drewN] at hle); (try (apply bk hb2 (w.heap.size); (focus (go_simp; rfl)); (focus (go_simp; rfl)); (focus (intro o; go_simp)); (try clear c_0_0 c_0_1 f_0); intro c_0_0 c_0_1 f_0 _; (try (apply bk hb2 (w.heap.size + 1); (focus (go_simp; rfl)); (focus (go_simp; rfl)); (focus (intro o; go_simp)); (try clear c_1_0 c_1_1 f_1); intro c_1_0 c_1_1 f_1 _; (try (apply bk hb2 (w.heap.size + 1 + 1); (focus (go_simp; rfl)); (focus (go_simp; rfl)); (focus (intro o; go_simp)); (try clear c_2_0 c_2_1 f_2); intro c_2_0 c_2_1 f_2 _; (try (apply bk hb2 (w.heap.size + 1 + 1 + 1); (focus (go_simp; rfl)); (focus (go_simp; rfl)); (focus (intro o; go_simp)); (try clear c_3_0 c_3_1 f_3); intro c_3_0 c_3_1 f_3 _)))))))); (try (apply bk hb2 (w1.heap.size); (focus (go_simp; rfl)); (focus (go_simp; rfl)); (focus (intro o; go_simp)); (try clear c1_0_0 c1_0_1 f1_0); intro c1_0_0 c1_0_1 f1_0 _; (try (apply bk hb2 (w1.heap.size + 1); (focus (go_simp; rfl)); (focus (go_simp; rfl)); (focus (intro o; go_simp)); (try clear c1_1_0 c1_1_1 f1_1); intro c1_1_0 c1_1_1 f1_1 _)))); clear hle; (try (apply old_keep (w0 := w) (w := w2); (focus ((repeat (first | (with_reducible exact Up.refl _) | (with_reducible assumption) | (with_reducible refine Up.alloc ?_ _) | (with_reducible refine Up.drew ?_) | ((with_reducible refine Up.set ?_ ?_ _); rotate_left; focus (first | omega | (simp; done) | (simp; omega))) | (with_reducible refine Up.drewN ?_ _) | (with_reducible refine Up.call ?_ (by with_reducible assumption)))))); intro y z; (try clear hUp); (try clear hOld); have hUp := y; have hOld := z; clear y z)))))
      all_goals
        go_ret2
        first
          | (refine RetR.mk (.error e2) ?_ hx2 (rel := slE) rfl)
          | (refine RetR.mk (.ok x2) ?_ hx2 (rel := slE) ⟨A2, c2, rfl, Hrd2.out, Hc2.out⟩)
        (repeat (first | (with_reducible exact Up.refl _) | (with_reducible assumption) | (with_reducible refine Up.alloc ?_ _) | (with_reducible refine Up.drew ?_) | ((with_reducible refine Up.set ?_ ?_ _); rotate_left; focus (first | omega | (simp; done) | (simp; omega))) | (with_reducible refine Up.drewN ?_ _) | (with_reducible refine Up.call ?_ (by with_reducible assumption))))
end Go.Proofs.YtmjcnpolnknkkaaGreatDoor
