/- The walks of package spansame: Box. -/
import Derived.Test.YtafhcppigpjcpaaDoorBoxb
set_option linter.unusedVariables false
set_option linter.unusedSimpArgs false
namespace Go.Proofs.YtafhcppigpjcpaaDoor
open Go.RowKit

theorem take_eq_step {a b : List Sp} {k : Nat} (ha : k < a.length) (hb : k < b.length) (h : a.take k = b.take k) : a.take (k + 1) = b.take (k + 1) ↔ a[k]?.getD ⟨0, 0⟩ = b[k]?.getD ⟨0, 0⟩ := by
  rw [List.take_succ_eq_append_getElem ha, List.take_succ_eq_append_getElem hb, h, List.getElem?_eq_getElem ha, List.getElem?_eq_getElem hb, List.append_cancel_left_eq]
  simp only [List.cons.injEq, and_true, Option.getD_some]
theorem sp_eq {s t : Sp} : s = t ↔ s.lo = t.lo ∧ s.hi = t.hi := by
  constructor
  · intro h; rw [h]; exact ⟨rfl, rfl⟩
  · intro h; exact Sp.ext' h.1 h.2
set_option maxHeartbeats 1000000 in
theorem sbox_any (A B : Option Addr) (a b : List Sp) (c d : Nat) (w : World) (ha : RdS w A a) (hb : RdS w B b) (hm : a.length ≤ 9223372036854775807) :
    Calls Tryd.prog 36 #[.slice A a.length c, .slice B b.length d] w (RetX boolV (decide (a = b)) w) := by
  have Ha := hid ha; have Hb := hid hb; have Hm := hid hm; clear ha hb hm
  by_cases hl : a.length = b.length
  · have hl1 : a.length ≤ b.length := by omega
    have hl2 : b.length ≤ a.length := by omega
    have Hl := hid hl
    have hd : ((a.length : Int) != (b.length : Int)) = false := by simp; omega
    clear hl
    go_enter Tryd.func36, Tryd.ntmps36
    go_wp2
    go_loopw [5] (fun i wr => ∃ k : Nat, k ≤ a.length ∧ i = .int .i64 k ∧ Hid (a.take k = b.take k) ∧ Up w wr) (fun i _ => a.length - (intOf i).toNat)
    case atStart => exact ⟨0, by omega, rfl, rfl, Up.refl _⟩
    case round =>
      obtain ⟨k, hk, rfl, H, hU⟩ := hrel
      have gr := (bcell hU).1
      have hle := hU.le
      by_cases hlt : k < a.length
      · obtain ⟨b1, o1, rfl, l1, c1⟩ := (Ha.out).at (by omega)
        obtain ⟨b2, o2, rfl, l2, c2⟩ := (Hb.out).at (by omega)
        obtain ⟨k1, k2⟩ := c1 k hlt
        obtain ⟨k3, k4⟩ := c2 k (by omega)
        have Hst := hid (take_eq_step hlt (by omega) H.out)
        have Hne := hid (fun (h : a = b) => (show a[k]?.getD ⟨0, 0⟩ = b[k]?.getD ⟨0, 0⟩ from by rw [h]))
        generalize a[k]?.getD ⟨0, 0⟩ = s at *
        generalize b[k]?.getD ⟨0, 0⟩ = t at *
        clear c1 c2
        have _ : b1 < wr.heap.size := by omega
        have _ : b2 < wr.heap.size := by omega
        have hak : ((k : Int) < (a.length : Int)) := by omega
        have hdk : decide ((k : Int) < (a.length : Int)) = true := by simp; omega
        have hkb : ((k : Int) < (b.length : Int)) := by omega
        have hk0 : (0 : Int) ≤ (k : Int) := by omega
        have hka : (k : Int) + 1 ≤ 9223372036854775807 := by have := Hm.out; omega
        have Hlt := hid hlt
        by_cases e1 : s.lo = t.lo
        · by_cases e2 : s.hi = t.hi
          · have Hee := hid (Hst.out.2 (sp_eq.2 ⟨e1, e2⟩))
            rw [e1] at k1
            rw [e2] at k2
            clear e1 e2
            go_wp2_with fail
            go_quiet (fail)
            go_wp2
            go_roundw
            case rel => exact ⟨k + 1, by have := Hlt.out; omega, by go_num, Hee.out, hU.drewN nq⟩
            case measure => have := Hlt.out; simp [intOf]; omega
          · have Hx := hid (show ¬ a = b from fun h => e2 (sp_eq.1 (Hne.out h)).2)
            have d1 : (s.hi == t.hi) = false := beq_eq_false_iff_ne.2 e2
            rw [e1] at k1
            clear e1 e2
            go_wp2_with fail
            go_quiet (fail)
            go_wp2
            go_ret
            refine RetX.mk false (hU.drewN nq) (decide_eq_false Hx.out) rfl
        · have Hx := hid (show ¬ a = b from fun h => e1 (sp_eq.1 (Hne.out h)).1)
          have d1 : (s.lo == t.lo) = false := beq_eq_false_iff_ne.2 e1
          clear e1
          go_wp2_with fail
          go_quiet (fail)
          go_wp2
          go_ret
          refine RetX.mk false (hU.drewN nq) (decide_eq_false Hx.out) rfl
      · obtain rfl : k = a.length := by omega
        have H2 := H.out
        rw [List.take_length, Hl.out, List.take_length] at H2
        have Hx := hid H2
        clear H2
        go_wp2
        go_ret
        refine RetX.mk true hU (decide_eq_true Hx.out) rfl
  · have Hx := hid (show ¬ a = b from fun h => hl (by rw [h]))
    have hd : ((a.length : Int) != (b.length : Int)) = true := by simp; omega
    clear hl
    go_enter Tryd.func36, Tryd.ntmps36
    go_wp2
    go_ret
    refine RetX.mk false (Up.refl _) (decide_eq_false Hx.out) rfl
end Go.Proofs.YtafhcppigpjcpaaDoor
