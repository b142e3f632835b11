/- The walk of the reference's Bound. -/
import Derived.Test.YteoomjenekkomaaDoorRfns
import Derived.Test.YteoomjenekkomaaDoorRfy
import Derived.Test.YteoomjenekkomaaDoorNearb
import Derived.Test.YteoomjenekkomaaDoorRffb
import Derived.Test.YteoomjenekkomaaDoorRfp

set_option linter.unusedVariables false
set_option linter.unusedSimpArgs false
namespace Go.Proofs.YteoomjenekkomaaDoor
open Go.RowKit

theorem nsteep_num {k : Nat} : ∀ (f : List Tm) (e : Nat), nsteepG k f = .error e → e = 4
  | [], e, h => by cases h
  | t :: f, e, h => by
    unfold nsteepG at h
    split at h
    · exact nsteep_num f e h
    · split at h
      · split at h
        · rename_i h1; injection h with h; subst h; exact nsteep_num f _ h1
        · cases h
      · injection h with h; exact h.symm
theorem bone_num {f : List Tm} {b : List Sp} : ∀ (n k : Nat) (s : Int) (e : Nat), boneG f b k n s = .error e → e = 4
  | 0, k, s, e, h => by
    unfold boneG at h
    split at h
    · cases h
    · injection h with h; exact h.symm
  | n + 1, k, s, e, h => by
    unfold boneG at h
    split at h
    · rename_i h1; injection h with h; subst h; exact nsteep_num _ _ h1
    · split at h
      · rename_i h1; injection h with h; subst h; exact fover_num _ _ _ h1
      · exact bone_num n _ _ _ h
theorem nzd' {e : Nat} (h : e = 5 ∨ e = 4 ∨ e = 1 ∨ e = 3) : ((e : Int) != 0) = true := by rcases h with rfl | rfl | rfl | rfl <;> rfl
set_option maxRecDepth 100000 in
set_option maxHeartbeats 8000000 in
theorem rbound_any (A B C : Option Addr) (s : Sy) (b : List Sp) (c d e : Nat) (w : World) (hY : RY w A B s) (hb : RdS w C b) :
    Calls Tryd.prog 42 #[.agg #[.slice A s.next.length c, .slice B s.push.length d], .slice C b.length e] w (RetX inR (boundF s b) w) := by
  have HY := hid hY; have Hb := hid hb; clear hY hb
  cases hrd : readyF s b with
  | some e0 =>
    have hr : boundF s b = .error e0 := by unfold boundF; rw [hrd]; rfl
    rw [hr]
    have q0 := nzd' (ready_num hrd)
    have Hrd := hid hrd; clear hrd hr
    go_enter Tryd.func42, Tryd.ntmps42
    go_wp2_with (first
      | ((go_at_call 25; (with_reducible refine (rready_any _ _ _ s b _ _ _ _ (HY.out.up (by (repeat (first | (with_reducible exact Up.refl _) | (with_reducible assumption) | (with_reducible refine Up.alloc ?_ _) | (with_reducible refine Up.drew ?_) | ((with_reducible refine Up.set ?_ ?_ _); rotate_left; focus (first | omega | (simp; done) | (simp; omega))) | (with_reducible refine Up.drewN ?_ _) | (with_reducible refine Up.call ?_ (by with_reducible assumption)))))) (Hb.out.up (by (repeat (first | (with_reducible exact Up.refl _) | (with_reducible assumption) | (with_reducible refine Up.alloc ?_ _) | (with_reducible refine Up.drew ?_) | ((with_reducible refine Up.set ?_ ?_ _); rotate_left; focus (first | omega | (simp; done) | (simp; omega))) | (with_reducible refine Up.drewN ?_ _) | (with_reducible refine Up.call ?_ (by with_reducible assumption))))))).mono ?_); rintro e w1 ⟨x1, hx1, rfl, hb1⟩ <;> (rw [Hrd.out] at hx1; subst hx1)) <;> (have hle := Up.le hb1; (try simp only [World.size_alloc, World.size_setCell, World.size_drew, World.heap_drewN] at hle); (try (have _ : w.heap.size < w1.heap.size := (by omega); (try (apply fk hb1 (w.heap.size); (focus (go_simp; rfl)); (focus (intro o; go_simp)); intro z; (try clear f_0); have f_0 := z; clear z)); (try (apply ck hb1 (w.heap.size) 0; (focus (go_simp; rfl)); intro z; (try clear c_0_0); have c_0_0 := z; clear z; (try (apply ck hb1 (w.heap.size) 1; (focus (go_simp; rfl)); intro z; (try clear c_0_1); have c_0_1 := z; clear z)))); (try (have _ : w.heap.size + 1 < w1.heap.size := (by omega); (try (apply fk hb1 (w.heap.size + 1); (focus (go_simp; rfl)); (focus (intro o; go_simp)); intro z; (try clear f_1); have f_1 := z; clear z)); (try (apply ck hb1 (w.heap.size + 1) 0; (focus (go_simp; rfl)); intro z; (try clear c_1_0); have c_1_0 := z; clear z; (try (apply ck hb1 (w.heap.size + 1) 1; (focus (go_simp; rfl)); intro z; (try clear c_1_1); have c_1_1 := z; clear z)))))))); clear hle; (try (apply old_keep (w0 := w) (w := w1); (focus ((repeat (first | (with_reducible exact Up.refl _) | (with_reducible assumption) | (with_reducible refine Up.alloc ?_ _) | (with_reducible refine Up.drew ?_) | ((with_reducible refine Up.set ?_ ?_ _); rotate_left; focus (first | omega | (simp; done) | (simp; omega))) | (with_reducible refine Up.drewN ?_ _) | (with_reducible refine Up.call ?_ (by with_reducible assumption)))))); intro y z; (try clear hUp); (try clear hOld); have hUp := y; have hOld := z; clear y z)))))
    go_ret2
    refine RetX.mk (.error e0 : Except Nat Int) ?_ rfl rfl
    (repeat (first | (with_reducible exact Up.refl _) | (with_reducible assumption) | (with_reducible refine Up.alloc ?_ _) | (with_reducible refine Up.drew ?_) | ((with_reducible refine Up.set ?_ ?_ _); rotate_left; focus (first | omega | (simp; done) | (simp; omega))) | (with_reducible refine Up.drewN ?_ _) | (with_reducible refine Up.call ?_ (by with_reducible assumption))))
  | none =>
    have hr : boundF s b = boundG b 0 s.next := by unfold boundF; rw [hrd]; rfl
    rw [hr]
    obtain ⟨hs, hB, hl⟩ := ready_good hrd
    have HS := hid hs; have HB := hid hB
    have Hrd := hid hrd; clear hrd hr hs hB hl
    go_enter Tryd.func42, Tryd.ntmps42
    go_wp2_with (first
      | ((go_at_call 25; (with_reducible refine (rready_any _ _ _ s b _ _ _ _ (HY.out.up (by (repeat (first | (with_reducible exact Up.refl _) | (with_reducible assumption) | (with_reducible refine Up.alloc ?_ _) | (with_reducible refine Up.drew ?_) | ((with_reducible refine Up.set ?_ ?_ _); rotate_left; focus (first | omega | (simp; done) | (simp; omega))) | (with_reducible refine Up.drewN ?_ _) | (with_reducible refine Up.call ?_ (by with_reducible assumption)))))) (Hb.out.up (by (repeat (first | (with_reducible exact Up.refl _) | (with_reducible assumption) | (with_reducible refine Up.alloc ?_ _) | (with_reducible refine Up.drew ?_) | ((with_reducible refine Up.set ?_ ?_ _); rotate_left; focus (first | omega | (simp; done) | (simp; omega))) | (with_reducible refine Up.drewN ?_ _) | (with_reducible refine Up.call ?_ (by with_reducible assumption))))))).mono ?_); rintro e w1 ⟨x1, hx1, rfl, hb1⟩ <;> (rw [Hrd.out] at hx1; subst hx1)) <;> (have hle := Up.le hb1; (try simp only [World.size_alloc, World.size_setCell, World.size_drew, World.heap_drewN] at hle); (try (have _ : w.heap.size < w1.heap.size := (by omega); (try (apply fk hb1 (w.heap.size); (focus (go_simp; rfl)); (focus (intro o; go_simp)); intro z; (try clear f_0); have f_0 := z; clear z)); (try (apply ck hb1 (w.heap.size) 0; (focus (go_simp; rfl)); intro z; (try clear c_0_0); have c_0_0 := z; clear z; (try (apply ck hb1 (w.heap.size) 1; (focus (go_simp; rfl)); intro z; (try clear c_0_1); have c_0_1 := z; clear z)))); (try (have _ : w.heap.size + 1 < w1.heap.size := (by omega); (try (apply fk hb1 (w.heap.size + 1); (focus (go_simp; rfl)); (focus (intro o; go_simp)); intro z; (try clear f_1); have f_1 := z; clear z)); (try (apply ck hb1 (w.heap.size + 1) 0; (focus (go_simp; rfl)); intro z; (try clear c_1_0); have c_1_0 := z; clear z; (try (apply ck hb1 (w.heap.size + 1) 1; (focus (go_simp; rfl)); intro z; (try clear c_1_1); have c_1_1 := z; clear z)))))))); clear hle; (try (apply old_keep (w0 := w) (w := w1); (focus ((repeat (first | (with_reducible exact Up.refl _) | (with_reducible assumption) | (with_reducible refine Up.alloc ?_ _) | (with_reducible refine Up.drew ?_) | ((with_reducible refine Up.set ?_ ?_ _); rotate_left; focus (first | omega | (simp; done) | (simp; omega))) | (with_reducible refine Up.drewN ?_ _) | (with_reducible refine Up.call ?_ (by with_reducible assumption)))))); intro y z; (try clear hUp); (try clear hOld); have hUp := y; have hOld := z; clear y z)))))
    have HU1 := hid (show Up w w1 by (repeat (first | (with_reducible exact Up.refl _) | (with_reducible assumption) | (with_reducible refine Up.alloc ?_ _) | (with_reducible refine Up.drew ?_) | ((with_reducible refine Up.set ?_ ?_ _); rotate_left; focus (first | omega | (simp; done) | (simp; omega))) | (with_reducible refine Up.drewN ?_ _) | (with_reducible refine Up.call ?_ (by with_reducible assumption)))))
    have C0 : Cf w1 w.heap.size 0 (.slice A s.next.length c) := ⟨by go_simp, by go_simp⟩
    have C1 : Cf w1 w.heap.size 1 (.slice B s.push.length d) := ⟨by go_simp, by go_simp⟩
    have HC0 := hid C0; have HC1 := hid C1
    clear C0 C1
    go_loopw [7, 8] (fun v i wr => ∃ (k : Nat) (m : Int), k ≤ s.next.length ∧ v = .int .i64 m ∧ i = .int .i64 k ∧ Hid (boundG b 0 s.next = boundG b m (s.next.drop k)) ∧ Hid (0 ≤ m ∧ m ≤ 1000000000) ∧ Up w1 wr) (fun _ i _ => s.next.length - (intOf i).toNat)
    case atStart => exact ⟨0, 0, by omega, rfl, rfl, rfl, ⟨by omega, by omega⟩, Up.refl _⟩
    case round =>
      obtain ⟨k, m, hk, rfl, rfl, H, Hmb, hU⟩ := hrel
      have HUw := hid (HU1.out.call hU)
      have gr := (bcell HUw.out).1
      have hle := HUw.out.le
      have c0 := ((bcell hU).1 _ _ (World.block_lt_of_cell? w1 _ HC0.out.1)).trans HC0.out.1
      have c1 := ((bcell hU).1 _ _ (World.block_lt_of_cell? w1 _ HC1.out.1)).trans HC1.out.1
      have l0 := World.block_lt_of_cell? wr _ c0
      dsimp only at l0
      by_cases hlt : k < s.next.length
      · obtain ⟨b1, o1, rfl, lb, cc⟩ := (HY.out.next).at (by omega)
        obtain ⟨A2, c2, q1, q2, q3⟩ := cc k hlt
        have j1 := (gr _ _ lb).trans q1
        have _ : b1 < wr.heap.size := by omega
        have Hdn := hid (fdrop s.next k hlt)
        have Hq := hid (RdT.up q3 HUw.out)
        have Hlt := hid hlt
        have Hck := hid (fcheck_ok (firstBadF_at HS.out.forms (s.next[k]?.getD []) (by rw [List.getElem?_eq_getElem hlt]; exact List.getElem_mem hlt)))
        have hdk : decide ((k : Int) < (s.next.length : Int)) = true := by simp; omega
        have hk0 : (0 : Int) ≤ (k : Int) := by omega
        have hkm : (k : Int) < (s.next.length : Int) := by omega
        have hk9 : (k : Int) < 3 := by have := HS.out.few; omega
        generalize s.next[k]?.getD [] = f at *
        have HU0 := hid hU
        have HJ1 := hid j1
        clear gr cc q1 q2 q3
        go_wp2
        obtain ⟨wo, hwo⟩ : ∃ x, x = wr := ⟨_, rfl⟩
        subst hwo
        go_loopw [9, 10] (fun v i wq => ∃ (j : Nat) (u : Int), j ≤ b.length ∧ v = .int .i64 u ∧ i = .int .i64 j ∧ Hid (boneG f b 0 b.length 0 = boneG f b j (b.length - j) u) ∧ Hid (0 ≤ u ∧ u ≤ j * 1000000000) ∧ Up wo wq) (fun _ i _ => b.length - (intOf i).toNat)
        case atStart => exact ⟨0, 0, by omega, rfl, rfl, rfl, ⟨by omega, by omega⟩, Up.refl _⟩
        case round =>
          clear hU
          obtain ⟨j, u, hj, rfl, rfl, HJ, Hub, hU⟩ := hrel
          have HUr := hid (HUw.out.call hU)
          have HU1r := hid (HU0.out.call hU)
          have gr := (bcell hU).1
          have hle := hU.le
          have j1 := (gr _ _ (by omega)).trans HJ1.out
          have c0' := (gr _ _ l0).trans c0
          clear c0 c1
          by_cases hjl : j < b.length
          · have Hjl := hid hjl
            have Hk3 := hid (show j < 3 by have := HB.out.few; omega)
            have Hnk := hid (show b.length - j = (b.length - (j + 1)) + 1 by omega)
            have hdj : decide ((j : Int) < (b.length : Int)) = true := by simp; omega
            have hj0 : (0 : Int) ≤ (j : Int) := by omega
            have hj9 : (j : Int) < 3 := by have := HB.out.few; omega
            clear gr hjl
            cases hst : nsteepG j f with
            | error e =>
              obtain rfl := nsteep_num _ _ hst
              have Hst := hid hst; clear hst
              go_wp2_with (first
                | ((go_at_call 39; refine (rtsteep_any f _ _ j _ (Hq.out.up (hU.call (by (repeat (first | (with_reducible exact Up.refl _) | (with_reducible assumption) | (with_reducible refine Up.alloc ?_ _) | (with_reducible refine Up.drew ?_) | ((with_reducible refine Up.set ?_ ?_ _); rotate_left; focus (first | omega | (simp; done) | (simp; omega))) | (with_reducible refine Up.drewN ?_ _) | (with_reducible refine Up.call ?_ (by with_reducible assumption))))))) (by have := Hck.out.2.2.1; omega) (firstBadT_terms Hck.out.2.2.2) Hk3.out).mono ?_; rintro e w2 ⟨x2, v2, hx2, rfl, hv2, hb2⟩); rw [Hst.out] at hx2; subst hx2; obtain rfl := tlN_error hv2; clear hv2))
              go_ret2
              refine RetX.mk (.error 4 : Except Nat Int) (HUr.out.call (by (repeat (first | (with_reducible exact Up.refl _) | (with_reducible assumption) | (with_reducible refine Up.alloc ?_ _) | (with_reducible refine Up.drew ?_) | ((with_reducible refine Up.set ?_ ?_ _); rotate_left; focus (first | omega | (simp; done) | (simp; omega))) | (with_reducible refine Up.drewN ?_ _) | (with_reducible refine Up.call ?_ (by with_reducible assumption)))))) ?_ rfl
              rw [H.out, Hdn.out, boundG_bad]
              rw [HJ.out, Hnk.out]; exact boneG_bad1 Hst.out
            | ok dd =>
              obtain ⟨hd1, hd2⟩ := steepG_ok Hk3.out f dd Hck.out.2.2.2 hst
              have Hd1 := hid hd1; have Hd2 := hid (show dd.length ≤ 1000 by have := Hck.out.2.2.1; omega)
              have Hst := hid hst; clear hst hd1 hd2
              cases hov : foverF dd b with
              | error e =>
                obtain rfl := fover_num _ _ _ hov
                have Hov := hid hov; clear hov
                go_wp2_with (first
                  | ((go_at_call 39; refine (rtsteep_any f _ _ j _ (Hq.out.up (hU.call (by (repeat (first | (with_reducible exact Up.refl _) | (with_reducible assumption) | (with_reducible refine Up.alloc ?_ _) | (with_reducible refine Up.drew ?_) | ((with_reducible refine Up.set ?_ ?_ _); rotate_left; focus (first | omega | (simp; done) | (simp; omega))) | (with_reducible refine Up.drewN ?_ _) | (with_reducible refine Up.call ?_ (by with_reducible assumption))))))) (by have := Hck.out.2.2.1; omega) (firstBadT_terms Hck.out.2.2.2) Hk3.out).mono ?_; rintro e w2 ⟨x2, v2, hx2, rfl, hv2, hb2⟩); rw [Hst.out] at hx2; subst hx2; obtain ⟨A2, c2, rfl, hrd2, -⟩ := tlN_ok hv2; have Hrd2 := hid hrd2; clear hv2 hrd2; obtain ⟨hd2, hf2⟩ := bcell hb2)
                  | ((go_at_call 70; refine (rfrange_any dd _ _ b _ _ _ _ (Hrd2.out.up (by (repeat (first | (with_reducible exact Up.refl _) | (with_reducible assumption) | (with_reducible refine Up.alloc ?_ _) | (with_reducible refine Up.drew ?_) | ((with_reducible refine Up.set ?_ ?_ _); rotate_left; focus (first | omega | (simp; done) | (simp; omega))) | (with_reducible refine Up.drewN ?_ _) | (with_reducible refine Up.call ?_ (by with_reducible assumption)))))) (Hb.out.up (HUr.out.call (by (repeat (first | (with_reducible exact Up.refl _) | (with_reducible assumption) | (with_reducible refine Up.alloc ?_ _) | (with_reducible refine Up.drew ?_) | ((with_reducible refine Up.set ?_ ?_ _); rotate_left; focus (first | omega | (simp; done) | (simp; omega))) | (with_reducible refine Up.drewN ?_ _) | (with_reducible refine Up.call ?_ (by with_reducible assumption))))))) HB.out.few HB.out.spans Hd1.out Hd2.out).mono ?_; rintro e w4 ⟨x4, hx4, rfl, hb4⟩); rw [Hov.out] at hx4; subst hx4; obtain ⟨hd4, hf4⟩ := bcell hb4))
                go_ret2
                refine RetX.mk (.error 4 : Except Nat Int) (HUr.out.call (by (repeat (first | (with_reducible exact Up.refl _) | (with_reducible assumption) | (with_reducible refine Up.alloc ?_ _) | (with_reducible refine Up.drew ?_) | ((with_reducible refine Up.set ?_ ?_ _); rotate_left; focus (first | omega | (simp; done) | (simp; omega))) | (with_reducible refine Up.drewN ?_ _) | (with_reducible refine Up.call ?_ (by with_reducible assumption)))))) ?_ rfl
                rw [H.out, Hdn.out, boundG_bad]
                rw [HJ.out, Hnk.out]; exact boneG_bad2 Hst.out Hov.out
              | ok x =>
                have Hx := hid (over_rt HB.out.spans hov)
                have Hov := hid hov; clear hov
                obtain ⟨a1, a2⟩ := apartT_bd Hx.out
                have Hgo := hid (boneG_go (s := u) (n := b.length - (j + 1)) Hst.out Hov.out)
                have hb1 : 0 ≤ u + (apartF x).2 := by have := Hub.out; omega
                have hb2 : u + (apartF x).2 ≤ 4000000000 := by have := Hub.out; have := Hk3.out; omega
                have Hap := hid (show apartF ⟨x.lo, x.hi⟩ = ((apartF x).1, (apartF x).2) from rfl)
                generalize (apartF x).1 = p1 at *
                generalize (apartF x).2 = p2 at *
                go_wp2_with (first
                  | ((go_at_call 39; refine (rtsteep_any f _ _ j _ (Hq.out.up (hU.call (by (repeat (first | (with_reducible exact Up.refl _) | (with_reducible assumption) | (with_reducible refine Up.alloc ?_ _) | (with_reducible refine Up.drew ?_) | ((with_reducible refine Up.set ?_ ?_ _); rotate_left; focus (first | omega | (simp; done) | (simp; omega))) | (with_reducible refine Up.drewN ?_ _) | (with_reducible refine Up.call ?_ (by with_reducible assumption))))))) (by have := Hck.out.2.2.1; omega) (firstBadT_terms Hck.out.2.2.2) Hk3.out).mono ?_; rintro e w2 ⟨x2, v2, hx2, rfl, hv2, hb2⟩); rw [Hst.out] at hx2; subst hx2; obtain ⟨A2, c2, rfl, hrd2, -⟩ := tlN_ok hv2; have Hrd2 := hid hrd2; clear hv2 hrd2; obtain ⟨hd2, hf2⟩ := bcell hb2)
                  | ((go_at_call 70; refine (rfrange_any dd _ _ b _ _ _ _ (Hrd2.out.up (by (repeat (first | (with_reducible exact Up.refl _) | (with_reducible assumption) | (with_reducible refine Up.alloc ?_ _) | (with_reducible refine Up.drew ?_) | ((with_reducible refine Up.set ?_ ?_ _); rotate_left; focus (first | omega | (simp; done) | (simp; omega))) | (with_reducible refine Up.drewN ?_ _) | (with_reducible refine Up.call ?_ (by with_reducible assumption)))))) (Hb.out.up (HUr.out.call (by (repeat (first | (with_reducible exact Up.refl _) | (with_reducible assumption) | (with_reducible refine Up.alloc ?_ _) | (with_reducible refine Up.drew ?_) | ((with_reducible refine Up.set ?_ ?_ _); rotate_left; focus (first | omega | (simp; done) | (simp; omega))) | (with_reducible refine Up.drewN ?_ _) | (with_reducible refine Up.call ?_ (by with_reducible assumption))))))) HB.out.few HB.out.spans Hd1.out Hd2.out).mono ?_; rintro e w4 ⟨x4, hx4, rfl, hb4⟩); rw [Hov.out] at hx4; subst hx4; obtain ⟨hd4, hf4⟩ := bcell hb4)
                  | ((go_at_call 90; refine (rfar_any _ _ _ Hx.out).mono ?_; rintro e w5 ⟨x5, hx5, rfl, hb5⟩); rw [Hap.out] at hx5; subst hx5; obtain ⟨hd5, hf5⟩ := bcell hb5))
                go_roundw
                case rel =>
                  refine ⟨j + 1, u + p2, by have := Hjl.out; omega, rfl, by go_num, ?_, ?_, ?_⟩
                  · show _ = _
                    rw [HJ.out, Hnk.out, Hgo.out]
                  · have := Hub.out
                    show _ ∧ _
                    omega
                  · (repeat (first | (with_reducible exact Up.refl _) | (with_reducible assumption) | (with_reducible refine Up.alloc ?_ _) | (with_reducible refine Up.drew ?_) | ((with_reducible refine Up.set ?_ ?_ _); rotate_left; focus (first | omega | (simp; done) | (simp; omega))) | (with_reducible refine Up.drewN ?_ _) | (with_reducible refine Up.call ?_ (by with_reducible assumption))))
                case measure => have := Hjl.out; simp [intOf]; omega
          · obtain rfl : j = b.length := by omega
            obtain ⟨s1, s2⟩ := Hub.out
            have hb1 : u ≤ 4000000000 := by have := HB.out.few; omega
            have Hfin := hid (show boneG f b 0 b.length 0 = (if M u then .ok u else .error 4) by rw [HJ.out, Nat.sub_self]; rfl)
            clear gr
            cases hmm : mayB u with
            | false =>
              have Hmm := hid hmm; clear hmm
              go_wp2_with (first
                | ((go_at_call 80; refine (rmay_any _ _).mono ?_; rintro e w' ⟨rfl, rfl⟩); rw [Hmm.out]))
              go_ret2
              refine RetX.mk (.error 4 : Except Nat Int) HUr.out ?_ rfl
              rw [H.out, Hdn.out, boundG_bad]
              rw [Hfin.out, if_neg (mayB_false.1 Hmm.out)]
            | true =>
              have Hbo := hid (show boneG f b 0 b.length 0 = .ok u by rw [Hfin.out, if_pos (mayB_true.1 hmm)])
              have Hn := hid (mayB_true.1 hmm)
              have Hmm := hid hmm; clear hmm
              have hor : decide (m < u) = true ∨ decide (m < u) = false := by cases decide (m < u) <;> simp
              rcases hor with d1 | d1
              all_goals
                have Hd1 := hid d1
                go_wp2_with (first
                  | ((go_at_call 80; refine (rmay_any _ _).mono ?_; rintro e w' ⟨rfl, rfl⟩); rw [Hmm.out]))
                go_roundw
                case rel =>
                  refine ⟨k + 1, max m u, by have := Hlt.out; omega, ?_, by go_num, ?_, ?_, HU1r.out⟩
                  · have := Hd1.out
                    simp at this
                    congr 1
                    omega
                  · show _ = _
                    rw [H.out, Hdn.out]; exact boundG_go Hbo.out
                  · have := Hmb.out
                    obtain ⟨n1, n2⟩ := Hn.out
                    show _ ∧ _
                    omega
                case measure => have := Hlt.out; simp [intOf]; omega
      · obtain rfl : k = s.next.length := by omega
        clear gr
        go_wp2
        go_ret2
        refine RetX.mk (.ok m : Except Nat Int) HUw.out ?_ rfl
        rw [H.out, List.drop_length]; rfl
end Go.Proofs.YteoomjenekkomaaDoor
