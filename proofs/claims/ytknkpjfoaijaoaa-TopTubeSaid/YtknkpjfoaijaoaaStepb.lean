/- The walk of step.Next. -/
import Derived.Test.YtknkpjfoaijaoaaStep

set_option linter.unusedVariables false
set_option linter.unusedSimpArgs false
namespace Go.Proofs.Ytknkpjfoaijaoaa
open Go.RowKit

theorem cell_two_at (w : World) (x y : Value) (t : TypeId) {n : Nat} (hn : n = w.heap.size) : ∀ j u, [x, y][j]? = some u → (w.alloc (.cells #[x, y] t)).cell? ((⟨n, 0, none⟩ : Addr).add j) = some u := by
  subst hn; exact cell_two_new _ _ _ _
set_option maxRecDepth 100000 in
set_option maxHeartbeats 4000000 in
theorem next_any (A B C : Option Addr) (s : Sy) (b : List Sp) (c d e : Nat) (w : World) (hY : RY w A B s) (hb : RdS w C b) (hs : Good s) (hB : Bx b) :
    Calls Try.prog 19 #[.agg #[.slice A s.next.length c, .slice B s.push.length d], .slice C b.length e] w (RetR (slNE w.heap.size) (nextF s b) w) := by
  obtain ⟨i0, hi0, hz0, hz1, hz2⟩ := info_parts Try.infoSpan
  have Hn := hid hY.next; have Hp := hid hY.push; have Hb := hid hb
  have HS := hid hs; have HB := hid hB
  have hr0 : nextF s b = preS [] (nextG b s.next s.push) := by unfold nextF; rw [preS_nil]
  rw [hr0]
  clear hY hb hs hB hr0
  go_enter Try.func19, Try.ntmps19
  go_wp2
  go_loopw [6, 14] (fun v i wr => ∃ (k : Nat) (L : List Sp), k ≤ s.next.length ∧ i = .int .i64 k ∧ Hid (preS [] (nextG b s.next s.push) = preS L (nextG b (s.next.drop k) (s.push.drop k))) ∧ Hid (L.length = k) ∧ OwnS wr (w.heap.size + 1) v L ∧ Up w wr ∧
    (Cf wr w.heap.size 0 (.slice A s.next.length c) ∧ Cf wr w.heap.size 1 (.slice B s.push.length d))) (fun _ i _ => s.next.length - (intOf i).toNat)
  case atStart =>
    refine ⟨0, [], by omega, rfl, rfl, rfl, OwnS.nil _ _, ?_, ⟨by go_simp, by go_simp⟩, ⟨by go_simp, by go_simp⟩⟩
    (repeat (first | (with_reducible exact Up.refl _) | (with_reducible assumption) | (with_reducible refine Up.alloc ?_ _) | (with_reducible refine Up.drew ?_) | ((with_reducible refine Up.set ?_ ?_ _); rotate_left; focus (first | omega | (simp; done) | (simp; omega))) | (with_reducible refine Up.drewN ?_ _) | (with_reducible refine Up.call ?_ (by with_reducible assumption))))
  case round =>
    obtain ⟨k, L, hk, rfl, H, HL, hown, hU, C0, C1⟩ := hrel
    have gr := (bcell hU).1
    have hle := hU.le
    obtain ⟨c0, g0⟩ := C0
    obtain ⟨c1, g1⟩ := C1
    have l0 := World.block_lt_of_cell? wr _ c0
    dsimp only at l0
    by_cases hlt : k < s.next.length
    · have hkp : k < s.push.length := by rw [HS.out.push]; exact hlt
      obtain ⟨b1, o1, rfl, lb, cc⟩ := (Hn.out).at (by omega)
      obtain ⟨A2, c2, q1, q2, q3⟩ := cc k hlt
      obtain ⟨b2, o2, rfl, lb2, cc2⟩ := (Hp.out).at (by omega)
      obtain ⟨p1, p2⟩ := cc2 k hkp
      have j1 := (gr _ _ lb).trans q1
      have j2 := (gr _ _ lb2).trans p1
      have j3 := (gr _ _ lb2).trans p2
      have _ : b1 < wr.heap.size := by omega
      have _ : b2 < wr.heap.size := by omega
      have Hdn := hid (fdrop s.next k hlt)
      have Hdp := hid (sdrop s.push k hkp)
      have Hlt := hid hlt
      have Hq := hid q3
      have Hck := hid (fcheck_ok (firstBadF_at HS.out.forms (s.next[k]?.getD []) (by rw [List.getElem?_eq_getElem hlt]; exact List.getElem_mem hlt)))
      have Hrt := hid (HS.out.spans (s.push[k]?.getD ⟨0, 0⟩) (by rw [List.getElem?_eq_getElem hkp]; exact List.getElem_mem hkp))
      have hdk : decide ((k : Int) < (s.next.length : Int)) = true := by simp; omega
      have hk0 : (0 : Int) ≤ (k : Int) := by omega
      have hkm : (k : Int) < (s.next.length : Int) := by omega
      have hkm2 : (k : Int) < (s.push.length : Int) := by omega
      have hk9 : (k : Int) < 3 := by have := HS.out.few; omega
      have HL4 := hid (show L.length ≤ 1000 by have := HL.out; have := HS.out.few; omega)
      generalize s.next[k]?.getD [] = f at *
      generalize s.push[k]?.getD ⟨0, 0⟩ = p at *
      have Hown := hid hown
      clear cc cc2 q1 q2 q3 p1 p2 gr hlt hkp hown
      cases hx2 : foverF f b with
      | error n2 =>
        have Hx2 := hid hx2; clear hx2
        go_wp2_with (first
                        | (go_at_call 33; refine (fover_any _ _ _ _ _ _ _ _ (Hq.out.up (by (repeat (first | (with_reducible exact Up.refl _) | (with_reducible assumption) | (with_reducible refine Up.alloc ?_ _) | (with_reducible refine Up.drew ?_) | ((with_reducible refine Up.set ?_ ?_ _); rotate_left; focus (first | omega | (simp; done) | (simp; omega))) | (with_reducible refine Up.drewN ?_ _) | (with_reducible refine Up.call ?_ (by with_reducible assumption)))))) (Hb.out.up (by (repeat (first | (with_reducible exact Up.refl _) | (with_reducible assumption) | (with_reducible refine Up.alloc ?_ _) | (with_reducible refine Up.drew ?_) | ((with_reducible refine Up.set ?_ ?_ _); rotate_left; focus (first | omega | (simp; done) | (simp; omega))) | (with_reducible refine Up.drewN ?_ _) | (with_reducible refine Up.call ?_ (by with_reducible assumption)))))) HB.out.few HB.out.spans Hck.out.2.2.2 (Nat.le_trans Hck.out.2.2.1 (by omega))).mono ?_; rintro e w2 ⟨x2, hx2, rfl, hb2⟩) <;> (rw [Hx2.out] at hx2; subst hx2))
        all_goals
          go_ret2
          refine RetR.mk (.error n2) ?_ ?_ (rel := slNE _) rfl
          · (repeat (first | (with_reducible exact Up.refl _) | (with_reducible assumption) | (with_reducible refine Up.alloc ?_ _) | (with_reducible refine Up.drew ?_) | ((with_reducible refine Up.set ?_ ?_ _); rotate_left; focus (first | omega | (simp; done) | (simp; omega))) | (with_reducible refine Up.drewN ?_ _) | (with_reducible refine Up.call ?_ (by with_reducible assumption))))
          · rw [H.out, Hdn.out, Hdp.out]; exact nextG_bad1 Hx2.out
      | ok x =>
        have HM := hid (fover_M hx2)
        have Hx2 := hid hx2; clear hx2
        cases hx3 : sumF x p with
        | error n3 =>
          have Hx3 := hid hx3; clear hx3
          go_wp2_with (first
                        | (go_at_call 33; refine (fover_any _ _ _ _ _ _ _ _ (Hq.out.up (by (repeat (first | (with_reducible exact Up.refl _) | (with_reducible assumption) | (with_reducible refine Up.alloc ?_ _) | (with_reducible refine Up.drew ?_) | ((with_reducible refine Up.set ?_ ?_ _); rotate_left; focus (first | omega | (simp; done) | (simp; omega))) | (with_reducible refine Up.drewN ?_ _) | (with_reducible refine Up.call ?_ (by with_reducible assumption)))))) (Hb.out.up (by (repeat (first | (with_reducible exact Up.refl _) | (with_reducible assumption) | (with_reducible refine Up.alloc ?_ _) | (with_reducible refine Up.drew ?_) | ((with_reducible refine Up.set ?_ ?_ _); rotate_left; focus (first | omega | (simp; done) | (simp; omega))) | (with_reducible refine Up.drewN ?_ _) | (with_reducible refine Up.call ?_ (by with_reducible assumption)))))) HB.out.few HB.out.spans Hck.out.2.2.2 (Nat.le_trans Hck.out.2.2.1 (by omega))).mono ?_; rintro e w2 ⟨x2, hx2, rfl, hb2⟩) <;> (rw [Hx2.out] at hx2; subst hx2; obtain ⟨hc2, hf2⟩ := bcell hb2; have _ : w.heap.size < w2.heap.size := (by have hle := Up.le hb2; first | omega | (simp at hle; omega) | (simp at hle; done)); (have _ : b2 < w2.heap.size := (by have hle := Up.le hb2; omega)); (have _ : b2 ≠ w2.heap.size := (by omega)); (have _ : w.heap.size ≠ w2.heap.size := (by omega))))
          go_region_law (go_simp; (go_at_call 34; refine (sum_any _ _ _ _ _ HM.out.1 HM.out.2 Hrt.out.1 Hrt.out.2.1).mono ?_; rintro e w4 ⟨x4, hx4, rfl, hb4⟩); rw [Hx3.out] at hx4; subst hx4; obtain ⟨hc4, hf4⟩ := bcell hb4; have _ : w.heap.size < w4.heap.size := (by have hle := Up.le hb4; first | omega | (simp at hle; omega) | (simp at hle; done)); (have _ : w2.heap.size < w4.heap.size := (by have hle := Up.le hb4; simp at hle; omega)); (have _ : w.heap.size < w2.heap.size + 1 := (by omega)))
          all_goals go_wp2
          all_goals
            go_ret2
            refine RetR.mk (.error n3) ?_ ?_ (rel := slNE _) rfl
            · (repeat (first | (with_reducible exact Up.refl _) | (with_reducible assumption) | (with_reducible refine Up.alloc ?_ _) | (with_reducible refine Up.drew ?_) | ((with_reducible refine Up.set ?_ ?_ _); rotate_left; focus (first | omega | (simp; done) | (simp; omega))) | (with_reducible refine Up.drewN ?_ _) | (with_reducible refine Up.call ?_ (by with_reducible assumption))))
            · rw [H.out, Hdn.out, Hdp.out]; exact nextG_bad2 Hx2.out Hx3.out
        | ok y =>
          have Hx3 := hid hx3; clear hx3
          go_wp2_with (first
                        | (go_at_call 33; refine (fover_any _ _ _ _ _ _ _ _ (Hq.out.up (by (repeat (first | (with_reducible exact Up.refl _) | (with_reducible assumption) | (with_reducible refine Up.alloc ?_ _) | (with_reducible refine Up.drew ?_) | ((with_reducible refine Up.set ?_ ?_ _); rotate_left; focus (first | omega | (simp; done) | (simp; omega))) | (with_reducible refine Up.drewN ?_ _) | (with_reducible refine Up.call ?_ (by with_reducible assumption)))))) (Hb.out.up (by (repeat (first | (with_reducible exact Up.refl _) | (with_reducible assumption) | (with_reducible refine Up.alloc ?_ _) | (with_reducible refine Up.drew ?_) | ((with_reducible refine Up.set ?_ ?_ _); rotate_left; focus (first | omega | (simp; done) | (simp; omega))) | (with_reducible refine Up.drewN ?_ _) | (with_reducible refine Up.call ?_ (by with_reducible assumption)))))) HB.out.few HB.out.spans Hck.out.2.2.2 (Nat.le_trans Hck.out.2.2.1 (by omega))).mono ?_; rintro e w2 ⟨x2, hx2, rfl, hb2⟩) <;> (rw [Hx2.out] at hx2; subst hx2; obtain ⟨hc2, hf2⟩ := bcell hb2; have _ : w.heap.size < w2.heap.size := (by have hle := Up.le hb2; first | omega | (simp at hle; omega) | (simp at hle; done)); (have _ : b2 < w2.heap.size := (by have hle := Up.le hb2; omega)); (have _ : b2 ≠ w2.heap.size := (by omega)); (have _ : w.heap.size ≠ w2.heap.size := (by omega))))
          go_region_law (go_simp; (go_at_call 34; refine (sum_any _ _ _ _ _ HM.out.1 HM.out.2 Hrt.out.1 Hrt.out.2.1).mono ?_; rintro e w4 ⟨x4, hx4, rfl, hb4⟩); rw [Hx3.out] at hx4; subst hx4; obtain ⟨hc4, hf4⟩ := bcell hb4; have _ : w.heap.size < w4.heap.size := (by have hle := Up.le hb4; first | omega | (simp at hle; omega) | (simp at hle; done)); (have _ : w2.heap.size < w4.heap.size := (by have hle := Up.le hb4; simp at hle; omega)); (have _ : w.heap.size < w2.heap.size + 1 := (by omega)))
          all_goals
            have U4 : Up wr w4 := by (repeat (first | (with_reducible exact Up.refl _) | (with_reducible assumption) | (with_reducible refine Up.alloc ?_ _) | (with_reducible refine Up.drew ?_) | ((with_reducible refine Up.set ?_ ?_ _); rotate_left; focus (first | omega | (simp; done) | (simp; omega))) | (with_reducible refine Up.drewN ?_ _) | (with_reducible refine Up.call ?_ (by with_reducible assumption))))
            have hn : u6.ownBlock ≠ some w2.heap.size := fun e => by have h1 := (Hown.out.lt _ e).2; have h2 := Up.le hb2; (try simp at h2); omega
            have hn0 : u6.ownBlock ≠ some w.heap.size := fun e => by have := (Hown.out.lt _ e).1; omega
            have HO := hid (((Hown.out.up U4).set (a := ⟨w2.heap.size, 0, none⟩) hn (.int .i64 y.lo)).set (a := ⟨w2.heap.size, 1, none⟩) hn (.int .i64 y.hi))
            have HU4 := hid U4
            have Hn0 := hid hn0
            clear U4 hn hn0
            go_wp2_with (at_builtin; refine wpList_append_own_at _ rfl (.tmp 41) (.tmp 43) _ rfl (w.heap.size + 1) 49 i0 (.agg #[.int .i64 0, .int .i64 0]) 2 16 Try.underlying23 hi0 hz0 hz1 hz2 rfl (by decide) _ _ _ rfl (HO.out.up ((Up.refl _).alloc _)) ⟨w4.heap.size, 0, none⟩ 1 1 [.int .i64 y.lo, .int .i64 y.hi] rfl rfl (cell_two_at _ _ _ _ (by simp)) (by simp [Value.oneCell']) (by have := HL4.out; unfold maxLen; omega) (by have := HL4.out; omega) (by simp; omega) ?_; intro v8 w5 own8 g8 _ at8)
            go_roundw
            case rel =>
              refine ⟨k + 1, L ++ [y], by have := Hlt.out; omega, by go_num, ?_, ?_, OwnS.snoc own8, ?_, ?_, ?_⟩
              · show _ = _
                rw [H.out, Hdn.out, Hdp.out]; exact nextG_good Hx2.out Hx3.out
              · have := HL.out
                show _ = _
                simp; omega
              · refine Below.grown (a := w) (B := w.heap.size) ?_ g8 ?_ (fun j hj => Nat.le_trans (by omega) (Hown.out.lt j hj).1)
                · (have U4 := HU4.out; show Up w _; (repeat (first | (with_reducible exact Up.refl _) | (with_reducible assumption) | (with_reducible refine Up.alloc ?_ _) | (with_reducible refine Up.drew ?_) | ((with_reducible refine Up.set ?_ ?_ _); rotate_left; focus (first | omega | (simp; done) | (simp; omega))) | (with_reducible refine Up.drewN ?_ _) | (with_reducible refine Up.call ?_ (by with_reducible assumption)))))
                · simp; omega
              · refine Cf.keep ⟨?_, ?_⟩ g8 Hn0.out <;> go_simp
              · refine Cf.keep ⟨?_, ?_⟩ g8 Hn0.out <;> go_simp
            case measure => have := Hlt.out; simp [intOf]; omega
    · obtain rfl : k = s.next.length := by omega
      obtain ⟨A', c', hv⟩ := hown.shape
      subst hv
      have Hown := hid hown
      clear hown gr
      go_wp2
      go_ret2
      refine RetR.mk (.ok L) hU ?_ (rel := slNE _) ?_
      · rw [H.out, List.drop_length, ← HS.out.push, List.drop_length]
        simp [nextG, preS]
      · obtain ⟨A2, c2, e1, e2, e3, e4⟩ := Hown.out.rdE
        exact ⟨A2, c2, e1, e2, e3, fun b o e => ⟨by have := (e4 b o e).1; omega, (e4 b o e).2⟩⟩
end Go.Proofs.Ytknkpjfoaijaoaa
