/- The walk of step.Point. -/
import Derived.Test.YtknkpjfoaijaoaaStepc
import Derived.Test.YtknkpjfoaijaoaaPolyd

set_option linter.unusedVariables false
set_option linter.unusedSimpArgs false
namespace Go.Proofs.Ytknkpjfoaijaoaa
open Go.RowKit

theorem moveG_bad1 {x L : List Int} {f : List Tm} {fs : List (List Tm)} {q : Int} {qs : List Int} {e : Nat} (h : pointF f x = .error e) : preL L (moveG x (f :: fs) (q :: qs)) = .error e := by
  unfold moveG; rw [h]; rfl
theorem moveG_bad2 {x L : List Int} {f : List Tm} {fs : List (List Tm)} {q n : Int} {qs : List Int} (h : pointF f x = .ok n) (h2 : ¬ M (n + q)) : preL L (moveG x (f :: fs) (q :: qs)) = .error 4 := by
  unfold moveG; rw [h]; dsimp only; rw [if_neg h2]; rfl
theorem moveG_good {x L : List Int} {f : List Tm} {fs : List (List Tm)} {q n : Int} {qs : List Int} (h : pointF f x = .ok n) (h2 : M (n + q)) : preL L (moveG x (f :: fs) (q :: qs)) = preL (L ++ [n + q]) (moveG x fs qs) := by
  conv => lhs; unfold moveG
  rw [h]; dsimp only; rw [if_pos h2]
  cases moveG x fs qs <;> simp [preL]
theorem pointF_M {f : List Tm} {x : List Int} {n : Int} (h : pointF f x = .ok n) : M n := by
  unfold pointF at h
  split at h
  · cases h
  · split at h
    · injection h with h
      rw [← h]; assumption
    · cases h
theorem inside_M {b : List Sp} {x : List Int} (h : Inside b x) (hb : ∀ p ∈ b, Rt p) : ∀ n ∈ x, M n := by
  induction b generalizing x with
  | nil => cases x with
    | nil => intro n hn; cases hn
    | cons => exact h.elim
  | cons s b ih => cases x with
    | nil => intro n hn; cases hn
    | cons m x =>
      obtain ⟨h1, h2, h3⟩ := h
      intro n hn
      rcases List.mem_cons.1 hn with e | e
      · rw [e]
        have := hb s (by simp)
        obtain ⟨⟨a1, a2⟩, ⟨a3, a4⟩, a5⟩ := this
        constructor <;> omega
      · exact ih h3 (fun p hp => hb p (by simp [hp])) n e
/-- Why a point is refused, or that it is fine till the polynomials. -/
theorem ypoint_cases (s : Sy) (x q : List Int) : (∃ n, ycheckF s = some n ∧ ypointF s x q = .error n) ∨
    (ycheckF s = none ∧ Good s ∧ ((¬ (x.length = s.next.length ∧ q.length = s.next.length) ∧ ypointF s x q = .error 3) ∨
      (x.length = s.next.length ∧ q.length = s.next.length ∧ ((hasG s.push q = false ∧ ypointF s x q = .error 1) ∨ (hasG s.push q = true ∧ ((∃ n, numbersF x = some n ∧ ypointF s x q = .error n) ∨ (numbersF x = none ∧ ypointF s x q = preL [] (moveG x s.next q)))))))) := by
  unfold ypointF
  cases hc : ycheckF s with
  | some n => exact .inl ⟨n, rfl, rfl⟩
  | none =>
    refine .inr ⟨rfl, ycheck_good hc, ?_⟩
    simp only [orErr]
    by_cases hl : x.length = s.next.length ∧ q.length = s.next.length
    · rw [if_neg (by omega)]
      refine .inr ⟨hl.1, hl.2, ?_⟩
      cases hg : hasG s.push q with
      | false => exact .inl ⟨rfl, by rw [if_pos rfl]⟩
      | true =>
        refine .inr ⟨rfl, ?_⟩
        rw [if_neg (by simp)]
        cases hn : numbersF x with
        | some n => exact .inl ⟨n, rfl, rfl⟩
        | none => exact .inr ⟨rfl, (preL_nil _).symm⟩
    · rw [if_pos (by omega)]
      exact .inl ⟨hl, rfl⟩
theorem inside_has {b : List Sp} {x : List Int} (hl : x.length = b.length) (h : hasG b x = true) : Inside b x := (hasG_inside b x hl).1 h
theorem ints_at {x : List Int} {P : Int → Prop} (h : ∀ n ∈ x, P n) (k : Nat) (hk : k < x.length) : P (x[k]?.getD 0) := by
  rw [List.getElem?_eq_getElem hk]; exact h _ (List.getElem_mem hk)
set_option maxRecDepth 100000 in
set_option maxHeartbeats 4000000 in
theorem ypoint_any (A B C D : Option Addr) (s : Sy) (x q : List Int) (c d e f : Nat) (w : World) (hY : RY w A B s) (hx : RdI w C x) (hq : RdI w D q) :
    Calls Try.prog 22 #[.agg #[.slice A s.next.length c, .slice B s.push.length d], .slice C x.length e, .slice D q.length f] w (RetR (ilNE w.heap.size) (ypointF s x q) w) := by
  have HY := hid hY; have Hx := hid hx; have Hq := hid hq; clear hY hx hq
  cases hc : ycheckF s with
  | some n =>
    have hr : ypointF s x q = .error n := by unfold ypointF; rw [hc]; rfl
    rw [hr]
    have Hc := hid hc; clear hc hr
    go_enter Try.func22, Try.ntmps22
    go_wp2_with (first
                        | ((go_at_call 20; (with_reducible refine (ycheck_any _ _ s _ _ _ (HY.out.up (by (repeat (first | (with_reducible exact Up.refl _) | (with_reducible assumption) | (with_reducible refine Up.alloc ?_ _) | (with_reducible refine Up.drew ?_) | ((with_reducible refine Up.set ?_ ?_ _); rotate_left; focus (first | omega | (simp; done) | (simp; omega))) | (with_reducible refine Up.drewN ?_ _) | (with_reducible refine Up.call ?_ (by with_reducible assumption))))))).mono ?_); rintro e w1 ⟨x1, hx1, rfl, hb1⟩ <;> (rw [Hc.out] at hx1; subst hx1)) <;> (have hle := Up.le hb1; (try simp only [World.size_alloc, World.size_setCell, World.size_drew, World.heap_drewN] at hle); (try (have _ : w.heap.size < w1.heap.size := (by omega); (try (apply fk hb1 (w.heap.size); (focus (go_simp; rfl)); (focus (intro o; go_simp)); intro z; (try clear f_0); have f_0 := z; clear z)); (try (apply ck hb1 (w.heap.size) 0; (focus (go_simp; rfl)); intro z; (try clear c_0_0); have c_0_0 := z; clear z; (try (apply ck hb1 (w.heap.size) 1; (focus (go_simp; rfl)); intro z; (try clear c_0_1); have c_0_1 := z; clear z)))); (try (have _ : w.heap.size + 1 < w1.heap.size := (by omega); (try (apply fk hb1 (w.heap.size + 1); (focus (go_simp; rfl)); (focus (intro o; go_simp)); intro z; (try clear f_1); have f_1 := z; clear z)); (try (apply ck hb1 (w.heap.size + 1) 0; (focus (go_simp; rfl)); intro z; (try clear c_1_0); have c_1_0 := z; clear z; (try (apply ck hb1 (w.heap.size + 1) 1; (focus (go_simp; rfl)); intro z; (try clear c_1_1); have c_1_1 := z; clear z)))))))); clear hle; (try (apply old_keep (w0 := w) (w := w1); (focus ((repeat (first | (with_reducible exact Up.refl _) | (with_reducible assumption) | (with_reducible refine Up.alloc ?_ _) | (with_reducible refine Up.drew ?_) | ((with_reducible refine Up.set ?_ ?_ _); rotate_left; focus (first | omega | (simp; done) | (simp; omega))) | (with_reducible refine Up.drewN ?_ _) | (with_reducible refine Up.call ?_ (by with_reducible assumption)))))); intro y z; (try clear hUp); (try clear hOld); have hUp := y; have hOld := z; clear y z)))))
    go_ret2
    refine RetR.mk (.error n) ?_ rfl (rel := ilNE _) rfl
    (repeat (first | (with_reducible exact Up.refl _) | (with_reducible assumption) | (with_reducible refine Up.alloc ?_ _) | (with_reducible refine Up.drew ?_) | ((with_reducible refine Up.set ?_ ?_ _); rotate_left; focus (first | omega | (simp; done) | (simp; omega))) | (with_reducible refine Up.drewN ?_ _) | (with_reducible refine Up.call ?_ (by with_reducible assumption))))
  | none =>
    have Hc := hid hc
    have HG := hid (ycheck_good hc)
    by_cases hl1 : x.length = s.next.length
    · by_cases hl2 : q.length = s.next.length
      · have Hyp := hid (show ypointF s x q = (if hasG s.push q = false then .error 1 else orErr (numbersF x) (moveG x s.next q)) by unfold ypointF; rw [hc]; simp only [orErr]; rw [if_neg (by omega)])
        have d1 : ((x.length : Int) != (s.next.length : Int)) = false := by simp; omega
        have d2 : ((q.length : Int) != (s.next.length : Int)) = false := by simp; omega
        have Hl1 := hid hl1; have Hl2 := hid hl2
        have hqp : q.length ≤ s.push.length := by have := HG.out.push; omega
        clear hc hl1 hl2
        go_enter Try.func22, Try.ntmps22
        go_wp2_with (first
                        | ((go_at_call 20; (with_reducible refine (ycheck_any _ _ s _ _ _ (HY.out.up (by (repeat (first | (with_reducible exact Up.refl _) | (with_reducible assumption) | (with_reducible refine Up.alloc ?_ _) | (with_reducible refine Up.drew ?_) | ((with_reducible refine Up.set ?_ ?_ _); rotate_left; focus (first | omega | (simp; done) | (simp; omega))) | (with_reducible refine Up.drewN ?_ _) | (with_reducible refine Up.call ?_ (by with_reducible assumption))))))).mono ?_); rintro e w1 ⟨x1, hx1, rfl, hb1⟩ <;> (rw [Hc.out] at hx1; subst hx1)) <;> (have hle := Up.le hb1; (try simp only [World.size_alloc, World.size_setCell, World.size_drew, World.heap_drewN] at hle); (try (have _ : w.heap.size < w1.heap.size := (by omega); (try (apply fk hb1 (w.heap.size); (focus (go_simp; rfl)); (focus (intro o; go_simp)); intro z; (try clear f_0); have f_0 := z; clear z)); (try (apply ck hb1 (w.heap.size) 0; (focus (go_simp; rfl)); intro z; (try clear c_0_0); have c_0_0 := z; clear z; (try (apply ck hb1 (w.heap.size) 1; (focus (go_simp; rfl)); intro z; (try clear c_0_1); have c_0_1 := z; clear z)))); (try (have _ : w.heap.size + 1 < w1.heap.size := (by omega); (try (apply fk hb1 (w.heap.size + 1); (focus (go_simp; rfl)); (focus (intro o; go_simp)); intro z; (try clear f_1); have f_1 := z; clear z)); (try (apply ck hb1 (w.heap.size + 1) 0; (focus (go_simp; rfl)); intro z; (try clear c_1_0); have c_1_0 := z; clear z; (try (apply ck hb1 (w.heap.size + 1) 1; (focus (go_simp; rfl)); intro z; (try clear c_1_1); have c_1_1 := z; clear z)))))))); clear hle; (try (apply old_keep (w0 := w) (w := w1); (focus ((repeat (first | (with_reducible exact Up.refl _) | (with_reducible assumption) | (with_reducible refine Up.alloc ?_ _) | (with_reducible refine Up.drew ?_) | ((with_reducible refine Up.set ?_ ?_ _); rotate_left; focus (first | omega | (simp; done) | (simp; omega))) | (with_reducible refine Up.drewN ?_ _) | (with_reducible refine Up.call ?_ (by with_reducible assumption)))))); intro y z; (try clear hUp); (try clear hOld); have hUp := y; have hOld := z; clear y z)))))
        go_loopw [39] (fun i wr => ∃ k : Nat, k ≤ q.length ∧ i = .int .i64 k ∧ Hid (hasG s.push q = hasG (s.push.drop k) (q.drop k)) ∧ Up w wr ∧
          (Cf wr w.heap.size 0 (.slice A s.next.length c) ∧ Cf wr w.heap.size 1 (.slice B s.push.length d))) (fun i _ => q.length - (intOf i).toNat)
        case atStart =>
          refine ⟨0, by omega, rfl, rfl, ?_, ⟨⟨by go_simp, by go_simp⟩, ⟨by go_simp, by go_simp⟩⟩⟩
          (repeat (first | (with_reducible exact Up.refl _) | (with_reducible assumption) | (with_reducible refine Up.alloc ?_ _) | (with_reducible refine Up.drew ?_) | ((with_reducible refine Up.set ?_ ?_ _); rotate_left; focus (first | omega | (simp; done) | (simp; omega))) | (with_reducible refine Up.drewN ?_ _) | (with_reducible refine Up.call ?_ (by with_reducible assumption))))
        case round =>
          obtain ⟨k, hk, rfl, H, hU, ⟨c0, g0⟩, ⟨c1, g1⟩⟩ := hrel
          have gr := (bcell hU).1
          have hle := hU.le
          have l0 := World.block_lt_of_cell? wr _ c0
          dsimp only at l0
          by_cases hlt : k < q.length
          · obtain ⟨b1, o1, rfl, lb, cc⟩ := (Hq.out).at (by omega)
            obtain ⟨b2, o2, rfl, lb2, cc2⟩ := (HY.out.push).at (by omega)
            obtain ⟨p1, p2⟩ := cc2 k (by omega)
            have j1 := (gr _ _ lb).trans (cc k hlt)
            have j2 := (gr _ _ lb2).trans p1
            have j3 := (gr _ _ lb2).trans p2
            have _ : b1 < wr.heap.size := by omega
            have _ : b2 < wr.heap.size := by omega
            have Hdb := hid (sdrop s.push k (by omega))
            have Hdq := hid (idrop q k hlt)
            have Hlt := hid hlt
            have hdk : decide ((k : Int) < (q.length : Int)) = true := by simp; omega
            have hk0 : (0 : Int) ≤ (k : Int) := by omega
            have hkb : (k : Int) < (q.length : Int) := by omega
            have hkp : (k : Int) < (s.push.length : Int) := by omega
            have hk9 : (k : Int) < 3 := by have := HG.out.few; have := Hl2.out; omega
            generalize s.push[k]?.getD ⟨0, 0⟩ = p at *
            generalize q[k]?.getD 0 = n at *
            clear cc cc2 p1 p2 gr hlt
            by_cases hin : n < p.lo ∨ p.hi < n
            · have Hin := hid hin
              have hor : (decide (n < p.lo) = true) ∨ (decide (n < p.lo) = false ∧ decide (p.hi < n) = true) := by
                by_cases h : n < p.lo
                · exact .inl (decide_eq_true h)
                · exact .inr ⟨decide_eq_false h, decide_eq_true (by omega)⟩
              clear hin
              rcases hor with e1 | ⟨e1, e2⟩
              all_goals
                go_wp2
                go_ret2
                refine RetR.mk (.error 1) ?_ ?_ (rel := ilNE _) rfl
                · (repeat (first | (with_reducible exact Up.refl _) | (with_reducible assumption) | (with_reducible refine Up.alloc ?_ _) | (with_reducible refine Up.drew ?_) | ((with_reducible refine Up.set ?_ ?_ _); rotate_left; focus (first | omega | (simp; done) | (simp; omega))) | (with_reducible refine Up.drewN ?_ _) | (with_reducible refine Up.call ?_ (by with_reducible assumption))))
                · rw [Hyp.out, H.out, Hdb.out, Hdq.out, hasG_no Hin.out, if_pos rfl]
            · have Hin := hid hin
              have e1 : decide (n < p.lo) = false := decide_eq_false (by omega)
              have e2 : decide (p.hi < n) = false := decide_eq_false (by omega)
              clear hin
              go_wp2
              go_roundw
              case rel =>
                refine ⟨k + 1, by have := Hlt.out; omega, by go_num, ?_, ?_, ⟨⟨by go_simp, by go_simp⟩, ⟨by go_simp, by go_simp⟩⟩⟩
                · show _ = _
                  rw [H.out, Hdb.out, Hdq.out]; exact hasG_yes Hin.out
                · (repeat (first | (with_reducible exact Up.refl _) | (with_reducible assumption) | (with_reducible refine Up.alloc ?_ _) | (with_reducible refine Up.drew ?_) | ((with_reducible refine Up.set ?_ ?_ _); rotate_left; focus (first | omega | (simp; done) | (simp; omega))) | (with_reducible refine Up.drewN ?_ _) | (with_reducible refine Up.call ?_ (by with_reducible assumption))))
              case measure => have := Hlt.out; simp [intOf]; omega
          · obtain rfl : k = q.length := by omega
            have hhas : hasG s.push q = true := by
              rw [H.out, List.drop_length]
              cases s.push.drop q.length <;> rfl
            have Hyp2 := hid (show ypointF s x q = orErr (numbersF x) (moveG x s.next q) by rw [Hyp.out, hhas, if_neg (by simp)])
            have Hin := hid (inside_has (by rw [Hl2.out, HG.out.push]) hhas)
            clear hhas gr H
            cases hn : numbersF x with
            | some m =>
              have Hn := hid hn; clear hn
              go_wp2_with (first
                        | (go_at_call 37; refine (numbers_any _ x _ _ (by have := Hl1.out; have := HG.out.few; omega) (Hx.out.up (by (repeat (first | (with_reducible exact Up.refl _) | (with_reducible assumption) | (with_reducible refine Up.alloc ?_ _) | (with_reducible refine Up.drew ?_) | ((with_reducible refine Up.set ?_ ?_ _); rotate_left; focus (first | omega | (simp; done) | (simp; omega))) | (with_reducible refine Up.drewN ?_ _) | (with_reducible refine Up.call ?_ (by with_reducible assumption))))))).mono ?_; rintro e w2 ⟨x2, hx2, rfl, hb2⟩) <;> (rw [Hn.out] at hx2; subst hx2))
              go_ret2
              refine RetR.mk (.error m) ?_ ?_ (rel := ilNE _) rfl
              · (repeat (first | (with_reducible exact Up.refl _) | (with_reducible assumption) | (with_reducible refine Up.alloc ?_ _) | (with_reducible refine Up.drew ?_) | ((with_reducible refine Up.set ?_ ?_ _); rotate_left; focus (first | omega | (simp; done) | (simp; omega))) | (with_reducible refine Up.drewN ?_ _) | (with_reducible refine Up.call ?_ (by with_reducible assumption))))
              · rw [Hyp2.out, Hn.out]; rfl
            | none =>
              have Hn := hid hn; clear hn
              have HS := hid (atq Hn.out)
              have Hyp3 := hid (show ypointF s x q = preL [] (moveG x s.next q) by rw [Hyp2.out, Hn.out, preL_nil]; rfl)
              have HM := hid (inside_M Hin.out HG.out.spans)
              obtain ⟨i0, hi0, hz0, hz1, hz2⟩ := info_parts Try.infoInt
              go_wp2_with (first
                        | (go_at_call 37; refine (numbers_any _ x _ _ (by have := Hl1.out; have := HG.out.few; omega) (Hx.out.up (by (repeat (first | (with_reducible exact Up.refl _) | (with_reducible assumption) | (with_reducible refine Up.alloc ?_ _) | (with_reducible refine Up.drew ?_) | ((with_reducible refine Up.set ?_ ?_ _); rotate_left; focus (first | omega | (simp; done) | (simp; omega))) | (with_reducible refine Up.drewN ?_ _) | (with_reducible refine Up.call ?_ (by with_reducible assumption))))))).mono ?_; rintro e w2 ⟨x2, hx2, rfl, hb2⟩) <;> (rw [Hn.out] at hx2; subst hx2; obtain ⟨hc2, hf2⟩ := bcell hb2; have _ : w.heap.size < w2.heap.size := (by have hle := Up.le hb2; first | omega | (simp at hle; omega) | (simp at hle; done))))
              have HU2 := hid (show Up w w2 by (repeat (first | (with_reducible exact Up.refl _) | (with_reducible assumption) | (with_reducible refine Up.alloc ?_ _) | (with_reducible refine Up.drew ?_) | ((with_reducible refine Up.set ?_ ?_ _); rotate_left; focus (first | omega | (simp; done) | (simp; omega))) | (with_reducible refine Up.drewN ?_ _) | (with_reducible refine Up.call ?_ (by with_reducible assumption)))))
              have C0 : Cf w2 w.heap.size 0 (.slice A s.next.length c) := ⟨by go_simp, by go_simp⟩
              have C1 : Cf w2 w.heap.size 1 (.slice B s.push.length d) := ⟨by go_simp, by go_simp⟩
              go_loopw [12, 72] (fun v i wr => ∃ (k : Nat) (L : List Int), k ≤ s.next.length ∧ i = .int .i64 k ∧ Hid (preL [] (moveG x s.next q) = preL L (moveG x (s.next.drop k) (q.drop k))) ∧ Hid (L.length = k) ∧ OwnI wr (w.heap.size + 1) v L ∧ Up w wr ∧
                (Cf wr w.heap.size 0 (.slice A s.next.length c) ∧ Cf wr w.heap.size 1 (.slice B s.push.length d))) (fun _ i _ => s.next.length - (intOf i).toNat)
              case atStart => exact ⟨0, [], by omega, rfl, rfl, rfl, OwnI.nil _ _, HU2.out, C0, C1⟩
              case round =>
                obtain ⟨k, L, hk, rfl, H, HL, hown, hU, ⟨c0, g0⟩, ⟨c1, g1⟩⟩ := hrel
                have gr := (bcell hU).1
                have hle := hU.le
                have l0 := World.block_lt_of_cell? wr _ c0
                dsimp only at l0
                by_cases hlt : k < s.next.length
                · have hkq : k < q.length := by have := Hl2.out; omega
                  obtain ⟨b1, o1, rfl, lb, cc⟩ := (HY.out.next).at (by omega)
                  obtain ⟨A2, c2, q1, q2, q3⟩ := cc k hlt
                  obtain ⟨b2, o2, rfl, lb2, cc2⟩ := (Hq.out).at (by omega)
                  have j1 := (gr _ _ lb).trans q1
                  have j2 := (gr _ _ lb2).trans (cc2 k hkq)
                  have _ : b1 < wr.heap.size := by omega
                  have _ : b2 < wr.heap.size := by omega
                  have Hdn := hid (fdrop s.next k hlt)
                  have Hdq := hid (idrop q k hkq)
                  have Hlt := hid hlt
                  have Hq3 := hid q3
                  have Hck := hid (fcheck_ok (firstBadF_at HG.out.forms (s.next[k]?.getD []) (by rw [List.getElem?_eq_getElem hlt]; exact List.getElem_mem hlt)))
                  have hMn := ints_at HM.out k hkq
                  have hdk : decide ((k : Int) < (s.next.length : Int)) = true := by simp; omega
                  have hk0 : (0 : Int) ≤ (k : Int) := by omega
                  have hkm : (k : Int) < (s.next.length : Int) := by omega
                  have hkm2 : (k : Int) < (q.length : Int) := by omega
                  have hk9 : (k : Int) < 3 := by have := HG.out.few; omega
                  have HL4 := hid (show L.length ≤ 1000 by have := HL.out; have := HG.out.few; omega)
                  generalize s.next[k]?.getD [] = fm at *
                  generalize q[k]?.getD 0 = n at *
                  have Hown := hid hown
                  clear cc cc2 q1 q2 q3 gr hlt hkq hown
                  cases hp : pointF fm x with
                  | error n2 =>
                    have Hp := hid hp; clear hp
                    go_wp2_with (first
                        | (go_at_call 38; refine (point_any fm _ _ x _ _ _ _ (Hq3.out.up (by (repeat (first | (with_reducible exact Up.refl _) | (with_reducible assumption) | (with_reducible refine Up.alloc ?_ _) | (with_reducible refine Up.drew ?_) | ((with_reducible refine Up.set ?_ ?_ _); rotate_left; focus (first | omega | (simp; done) | (simp; omega))) | (with_reducible refine Up.drewN ?_ _) | (with_reducible refine Up.call ?_ (by with_reducible assumption)))))) (Hx.out.up (by (repeat (first | (with_reducible exact Up.refl _) | (with_reducible assumption) | (with_reducible refine Up.alloc ?_ _) | (with_reducible refine Up.drew ?_) | ((with_reducible refine Up.set ?_ ?_ _); rotate_left; focus (first | omega | (simp; done) | (simp; omega))) | (with_reducible refine Up.drewN ?_ _) | (with_reducible refine Up.call ?_ (by with_reducible assumption)))))) (by have := Hl1.out; have := HG.out.few; omega) HS.out Hck.out.2.2.2 Hck.out.2.2.1).mono ?_; rintro e w3 ⟨x3, hx3, rfl, hb3⟩) <;> (rw [Hp.out] at hx3; subst hx3))
                    go_ret2
                    refine RetR.mk (.error n2) ?_ ?_ (rel := ilNE _) rfl
                    · (repeat (first | (with_reducible exact Up.refl _) | (with_reducible assumption) | (with_reducible refine Up.alloc ?_ _) | (with_reducible refine Up.drew ?_) | ((with_reducible refine Up.set ?_ ?_ _); rotate_left; focus (first | omega | (simp; done) | (simp; omega))) | (with_reducible refine Up.drewN ?_ _) | (with_reducible refine Up.call ?_ (by with_reducible assumption))))
                    · rw [Hyp3.out, H.out, Hdn.out, Hdq.out]; exact moveG_bad1 Hp.out
                  | ok m =>
                    obtain ⟨m1, m2⟩ := pointF_M hp
                    obtain ⟨m3, m4⟩ := hMn
                    have hb1 : -2000000000 ≤ m + n := by omega
                    have hb2 : m + n ≤ 2000000000 := by omega
                    clear m1 m2 m3 m4
                    have Hp := hid hp; clear hp
                    cases hmm : mayB (m + n) with
                    | false =>
                      have Hmm := hid hmm; clear hmm
                      go_wp2_with (first
                        | (go_at_call 38; refine (point_any fm _ _ x _ _ _ _ (Hq3.out.up (by (repeat (first | (with_reducible exact Up.refl _) | (with_reducible assumption) | (with_reducible refine Up.alloc ?_ _) | (with_reducible refine Up.drew ?_) | ((with_reducible refine Up.set ?_ ?_ _); rotate_left; focus (first | omega | (simp; done) | (simp; omega))) | (with_reducible refine Up.drewN ?_ _) | (with_reducible refine Up.call ?_ (by with_reducible assumption)))))) (Hx.out.up (by (repeat (first | (with_reducible exact Up.refl _) | (with_reducible assumption) | (with_reducible refine Up.alloc ?_ _) | (with_reducible refine Up.drew ?_) | ((with_reducible refine Up.set ?_ ?_ _); rotate_left; focus (first | omega | (simp; done) | (simp; omega))) | (with_reducible refine Up.drewN ?_ _) | (with_reducible refine Up.call ?_ (by with_reducible assumption)))))) (by have := Hl1.out; have := HG.out.few; omega) HS.out Hck.out.2.2.2 Hck.out.2.2.1).mono ?_; rintro e w3 ⟨x3, hx3, rfl, hb3⟩) <;> (rw [Hp.out] at hx3; subst hx3; obtain ⟨hc3, hf3⟩ := bcell hb3)
                        | ((go_at_call 39; refine (may_any _ _).mono ?_; rintro e w' ⟨rfl, rfl⟩); rw [Hmm.out]))
                      go_ret2
                      refine RetR.mk (.error 4) ?_ ?_ (rel := ilNE _) rfl
                      · (repeat (first | (with_reducible exact Up.refl _) | (with_reducible assumption) | (with_reducible refine Up.alloc ?_ _) | (with_reducible refine Up.drew ?_) | ((with_reducible refine Up.set ?_ ?_ _); rotate_left; focus (first | omega | (simp; done) | (simp; omega))) | (with_reducible refine Up.drewN ?_ _) | (with_reducible refine Up.call ?_ (by with_reducible assumption))))
                      · rw [Hyp3.out, H.out, Hdn.out, Hdq.out]; exact moveG_bad2 Hp.out (mayB_false.1 Hmm.out)
                    | true =>
                      have Hmm := hid hmm; clear hmm
                      go_wp2_with (first
                        | (go_at_call 38; refine (point_any fm _ _ x _ _ _ _ (Hq3.out.up (by (repeat (first | (with_reducible exact Up.refl _) | (with_reducible assumption) | (with_reducible refine Up.alloc ?_ _) | (with_reducible refine Up.drew ?_) | ((with_reducible refine Up.set ?_ ?_ _); rotate_left; focus (first | omega | (simp; done) | (simp; omega))) | (with_reducible refine Up.drewN ?_ _) | (with_reducible refine Up.call ?_ (by with_reducible assumption)))))) (Hx.out.up (by (repeat (first | (with_reducible exact Up.refl _) | (with_reducible assumption) | (with_reducible refine Up.alloc ?_ _) | (with_reducible refine Up.drew ?_) | ((with_reducible refine Up.set ?_ ?_ _); rotate_left; focus (first | omega | (simp; done) | (simp; omega))) | (with_reducible refine Up.drewN ?_ _) | (with_reducible refine Up.call ?_ (by with_reducible assumption)))))) (by have := Hl1.out; have := HG.out.few; omega) HS.out Hck.out.2.2.2 Hck.out.2.2.1).mono ?_; rintro e w3 ⟨x3, hx3, rfl, hb3⟩) <;> (rw [Hp.out] at hx3; subst hx3; obtain ⟨hc3, hf3⟩ := bcell hb3; have HO := hid (Hown.out.up hb3); have _ : w.heap.size < w3.heap.size := (by have hle := Up.le hb3; first | omega | (simp at hle; omega) | (simp at hle; done)))
                        | ((go_at_call 39; refine (may_any _ _).mono ?_; rintro e w' ⟨rfl, rfl⟩); rw [Hmm.out])
                        | (at_builtin; refine wpList_append_own_at _ rfl (.tmp 95) (.tmp 102) _ rfl (w.heap.size + 1) 3 i0 (.int .i64 0) 1 8 Try.underlying26 hi0 hz0 hz1 hz2 rfl (by decide) _ _ _ rfl (HO.out.up ((Up.refl _).alloc _)) ⟨w3.heap.size, 0, none⟩ 1 1 [.int .i64 (m + n)] rfl rfl (cell_one_new _ _ _) (by simp [Value.oneCell']) (by have := HL4.out; unfold maxLen; omega) (by have := HL4.out; omega) (by simp; omega) ?_; intro v8 w5 own8 g8 _ at8))
                      have Hn0 := hid (show u12.ownBlock ≠ some w.heap.size from fun e => by have := (Hown.out.lt _ e).1; omega)
                      go_roundw
                      case rel =>
                        refine ⟨k + 1, L ++ [m + n], by have := Hlt.out; omega, by go_num, ?_, ?_, OwnI.snoc own8, ?_, ?_, ?_⟩
                        · show _ = _
                          rw [H.out, Hdn.out, Hdq.out]; exact moveG_good Hp.out (mayB_true.1 Hmm.out)
                        · have := HL.out
                          show _ = _
                          simp; omega
                        · refine Below.grown (a := w) (B := w.heap.size) ?_ g8 ?_ (fun j hj => Nat.le_trans (by omega) (Hown.out.lt j hj).1)
                          · (show Up w _; (repeat (first | (with_reducible exact Up.refl _) | (with_reducible assumption) | (with_reducible refine Up.alloc ?_ _) | (with_reducible refine Up.drew ?_) | ((with_reducible refine Up.set ?_ ?_ _); rotate_left; focus (first | omega | (simp; done) | (simp; omega))) | (with_reducible refine Up.drewN ?_ _) | (with_reducible refine Up.call ?_ (by with_reducible assumption)))))
                          · simp; omega
                        · refine Cf.keep ⟨?_, ?_⟩ g8 Hn0.out <;> go_simp
                        · refine Cf.keep ⟨?_, ?_⟩ g8 Hn0.out <;> go_simp
                      case measure => have := Hlt.out; simp [intOf]; omega
                · obtain rfl : k = s.next.length := by omega
                  obtain ⟨A', c', hv⟩ := hown.shape
                  subst hv
                  have Hown := hid hown
                  clear hown gr
                  go_wp2
                  go_ret2
                  refine RetR.mk (.ok L) hU ?_ (rel := ilNE _) ?_
                  · rw [Hyp3.out, H.out, List.drop_length, ← Hl2.out, List.drop_length]
                    simp [moveG, preL]
                  · obtain ⟨A2, c2, e1, e2, e3, e4⟩ := Hown.out.rdE
                    exact ⟨A2, c2, e1, e2, e3, fun b o e => ⟨by have := (e4 b o e).1; omega, (e4 b o e).2⟩⟩
      · have d1 : ((x.length : Int) != (s.next.length : Int)) = false := by simp; omega
        have d2 : ((q.length : Int) != (s.next.length : Int)) = true := by simp; omega
        have hr : ypointF s x q = .error 3 := by unfold ypointF; rw [hc]; simp only [orErr]; rw [if_pos (by omega)]
        rw [hr]
        clear hc hl1 hl2 hr
        go_enter Try.func22, Try.ntmps22
        go_wp2_with (first
                        | ((go_at_call 20; (with_reducible refine (ycheck_any _ _ s _ _ _ (HY.out.up (by (repeat (first | (with_reducible exact Up.refl _) | (with_reducible assumption) | (with_reducible refine Up.alloc ?_ _) | (with_reducible refine Up.drew ?_) | ((with_reducible refine Up.set ?_ ?_ _); rotate_left; focus (first | omega | (simp; done) | (simp; omega))) | (with_reducible refine Up.drewN ?_ _) | (with_reducible refine Up.call ?_ (by with_reducible assumption))))))).mono ?_); rintro e w1 ⟨x1, hx1, rfl, hb1⟩ <;> (rw [Hc.out] at hx1; subst hx1)) <;> (have hle := Up.le hb1; (try simp only [World.size_alloc, World.size_setCell, World.size_drew, World.heap_drewN] at hle); (try (have _ : w.heap.size < w1.heap.size := (by omega); (try (apply fk hb1 (w.heap.size); (focus (go_simp; rfl)); (focus (intro o; go_simp)); intro z; (try clear f_0); have f_0 := z; clear z)); (try (apply ck hb1 (w.heap.size) 0; (focus (go_simp; rfl)); intro z; (try clear c_0_0); have c_0_0 := z; clear z; (try (apply ck hb1 (w.heap.size) 1; (focus (go_simp; rfl)); intro z; (try clear c_0_1); have c_0_1 := z; clear z)))); (try (have _ : w.heap.size + 1 < w1.heap.size := (by omega); (try (apply fk hb1 (w.heap.size + 1); (focus (go_simp; rfl)); (focus (intro o; go_simp)); intro z; (try clear f_1); have f_1 := z; clear z)); (try (apply ck hb1 (w.heap.size + 1) 0; (focus (go_simp; rfl)); intro z; (try clear c_1_0); have c_1_0 := z; clear z; (try (apply ck hb1 (w.heap.size + 1) 1; (focus (go_simp; rfl)); intro z; (try clear c_1_1); have c_1_1 := z; clear z)))))))); clear hle; (try (apply old_keep (w0 := w) (w := w1); (focus ((repeat (first | (with_reducible exact Up.refl _) | (with_reducible assumption) | (with_reducible refine Up.alloc ?_ _) | (with_reducible refine Up.drew ?_) | ((with_reducible refine Up.set ?_ ?_ _); rotate_left; focus (first | omega | (simp; done) | (simp; omega))) | (with_reducible refine Up.drewN ?_ _) | (with_reducible refine Up.call ?_ (by with_reducible assumption)))))); intro y z; (try clear hUp); (try clear hOld); have hUp := y; have hOld := z; clear y z)))))
        go_ret2
        refine RetR.mk (.error 3) ?_ rfl (rel := ilNE _) rfl
        (repeat (first | (with_reducible exact Up.refl _) | (with_reducible assumption) | (with_reducible refine Up.alloc ?_ _) | (with_reducible refine Up.drew ?_) | ((with_reducible refine Up.set ?_ ?_ _); rotate_left; focus (first | omega | (simp; done) | (simp; omega))) | (with_reducible refine Up.drewN ?_ _) | (with_reducible refine Up.call ?_ (by with_reducible assumption))))
    · have d1 : ((x.length : Int) != (s.next.length : Int)) = true := by simp; omega
      have hr : ypointF s x q = .error 3 := by unfold ypointF; rw [hc]; simp only [orErr]; rw [if_pos (by omega)]
      rw [hr]
      clear hc hl1 hr
      go_enter Try.func22, Try.ntmps22
      go_wp2_with (first
                        | ((go_at_call 20; (with_reducible refine (ycheck_any _ _ s _ _ _ (HY.out.up (by (repeat (first | (with_reducible exact Up.refl _) | (with_reducible assumption) | (with_reducible refine Up.alloc ?_ _) | (with_reducible refine Up.drew ?_) | ((with_reducible refine Up.set ?_ ?_ _); rotate_left; focus (first | omega | (simp; done) | (simp; omega))) | (with_reducible refine Up.drewN ?_ _) | (with_reducible refine Up.call ?_ (by with_reducible assumption))))))).mono ?_); rintro e w1 ⟨x1, hx1, rfl, hb1⟩ <;> (rw [Hc.out] at hx1; subst hx1)) <;> (have hle := Up.le hb1; (try simp only [World.size_alloc, World.size_setCell, World.size_drew, World.heap_drewN] at hle); (try (have _ : w.heap.size < w1.heap.size := (by omega); (try (apply fk hb1 (w.heap.size); (focus (go_simp; rfl)); (focus (intro o; go_simp)); intro z; (try clear f_0); have f_0 := z; clear z)); (try (apply ck hb1 (w.heap.size) 0; (focus (go_simp; rfl)); intro z; (try clear c_0_0); have c_0_0 := z; clear z; (try (apply ck hb1 (w.heap.size) 1; (focus (go_simp; rfl)); intro z; (try clear c_0_1); have c_0_1 := z; clear z)))); (try (have _ : w.heap.size + 1 < w1.heap.size := (by omega); (try (apply fk hb1 (w.heap.size + 1); (focus (go_simp; rfl)); (focus (intro o; go_simp)); intro z; (try clear f_1); have f_1 := z; clear z)); (try (apply ck hb1 (w.heap.size + 1) 0; (focus (go_simp; rfl)); intro z; (try clear c_1_0); have c_1_0 := z; clear z; (try (apply ck hb1 (w.heap.size + 1) 1; (focus (go_simp; rfl)); intro z; (try clear c_1_1); have c_1_1 := z; clear z)))))))); clear hle; (try (apply old_keep (w0 := w) (w := w1); (focus ((repeat (first | (with_reducible exact Up.refl _) | (with_reducible assumption) | (with_reducible refine Up.alloc ?_ _) | (with_reducible refine Up.drew ?_) | ((with_reducible refine Up.set ?_ ?_ _); rotate_left; focus (first | omega | (simp; done) | (simp; omega))) | (with_reducible refine Up.drewN ?_ _) | (with_reducible refine Up.call ?_ (by with_reducible assumption)))))); intro y z; (try clear hUp); (try clear hOld); have hUp := y; have hOld := z; clear y z)))))
      go_ret2
      refine RetR.mk (.error 3) ?_ rfl (rel := ilNE _) rfl
      (repeat (first | (with_reducible exact Up.refl _) | (with_reducible assumption) | (with_reducible refine Up.alloc ?_ _) | (with_reducible refine Up.drew ?_) | ((with_reducible refine Up.set ?_ ?_ _); rotate_left; focus (first | omega | (simp; done) | (simp; omega))) | (with_reducible refine Up.drewN ?_ _) | (with_reducible refine Up.call ?_ (by with_reducible assumption))))
end Go.Proofs.Ytknkpjfoaijaoaa
