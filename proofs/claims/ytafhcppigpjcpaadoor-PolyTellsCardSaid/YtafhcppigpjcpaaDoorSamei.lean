/- The walk of package spansame: Ints. -/
import Derived.Test.YtafhcppigpjcpaaDoorBase
import Derived.Test.YtafhcppigpjcpaaDoorBoxb
set_option linter.unusedVariables false
set_option linter.unusedSimpArgs false
namespace Go.Proofs.YtafhcppigpjcpaaDoor
open Go.RowKit

theorem take_eqI_step {a b : List Int} {k : Nat} (ha : k < a.length) (hb : k < b.length) (h : a.take k = b.take k) : a.take (k + 1) = b.take (k + 1) ↔ a[k]?.getD 0 = b[k]?.getD 0 := by
  rw [List.take_succ_eq_append_getElem ha, List.take_succ_eq_append_getElem hb, h, List.getElem?_eq_getElem ha, List.getElem?_eq_getElem hb, List.append_cancel_left_eq]
  simp only [List.cons.injEq, and_true, Option.getD_some]
set_option maxRecDepth 100000 in
set_option maxHeartbeats 1000000 in
theorem sints_any (A B : Option Addr) (a b : List Int) (c d : Nat) (w : World) (ha : RdI w A a) (hb : RdI w B b) (hm : a.length ≤ 9223372036854775807) :
    Calls Tryd.prog 59 #[.slice A a.length c, .slice B b.length d] w (RetX boolV (decide (a = b)) w) := by
  have Ha := hid ha; have Hb := hid hb; have Hm := hid hm; clear ha hb hm
  by_cases hl : a.length = b.length
  · have hl1 : a.length ≤ b.length := by omega
    have hl2 : b.length ≤ a.length := by omega
    have Hl := hid hl
    have hd : ((a.length : Int) != (b.length : Int)) = false := by simp; omega
    clear hl
    go_enter Tryd.func59, Tryd.ntmps59
    go_wp2
    go_loopw [5] (fun i wr => ∃ k : Nat, k ≤ a.length ∧ i = .int .i64 k ∧ Hid (a.take k = b.take k) ∧ Up w wr) (fun i _ => a.length - (intOf i).toNat)
    case atStart => exact ⟨0, by omega, rfl, rfl, Up.refl _⟩
    case round =>
      obtain ⟨k, hk, rfl, H, hU⟩ := hrel
      have gr := (bcell hU).1
      have hle := hU.le
      by_cases hlt : k < a.length
      · obtain ⟨b1, o1, rfl, l1, c1⟩ := (Ha.out).at (by omega)
        obtain ⟨b2, o2, rfl, l2, c2⟩ := (Hb.out).at (by omega)
        have k1 := c1 k hlt
        have k3 := c2 k (by omega)
        have Hst := hid (take_eqI_step hlt (by omega) H.out)
        have Hne := hid (fun (h : a = b) => (show a[k]?.getD 0 = b[k]?.getD 0 from by rw [h]))
        generalize a[k]?.getD 0 = s at *
        generalize b[k]?.getD 0 = t at *
        clear c1 c2
        have _ : b1 < wr.heap.size := by omega
        have _ : b2 < wr.heap.size := by omega
        have hak : ((k : Int) < (a.length : Int)) := by omega
        have hdk : decide ((k : Int) < (a.length : Int)) = true := by simp; omega
        have hkb : ((k : Int) < (b.length : Int)) := by omega
        have hk0 : (0 : Int) ≤ (k : Int) := by omega
        have hka : (k : Int) + 1 ≤ 9223372036854775807 := by have := Hm.out; omega
        have Hlt := hid hlt
        by_cases e1 : s = t
        · have Hee := hid (Hst.out.2 e1)
          subst e1
          go_wp2_with fail
          go_quiet (fail)
          go_wp2
          go_roundw
          case rel => exact ⟨k + 1, by have := Hlt.out; omega, by go_num, Hee.out, by first | (with_reducible exact hU) | exact hU.drewN _⟩
          case measure => have := Hlt.out; simp [intOf]; omega
        · have Hx := hid (show ¬ a = b from fun h => e1 (Hne.out h))
          have d1 : (s != t) = true := bne_iff_ne.2 e1
          clear e1
          go_wp2_with fail
          go_quiet (fail)
          go_wp2
          go_ret
          refine RetX.mk false (by first | (with_reducible exact hU) | exact hU.drewN _) (decide_eq_false Hx.out) rfl
      · obtain rfl : k = a.length := by omega
        have H2 := H.out
        rw [List.take_length, Hl.out, List.take_length] at H2
        have Hx := hid H2
        clear H2
        go_wp2
        go_ret
        refine RetX.mk true hU (decide_eq_true Hx.out) rfl
  · have Hx := hid (show ¬ a = b from fun h => hl (by rw [h]))
    have hd : ((a.length : Int) != (b.length : Int)) = true := by simp; omega
    clear hl
    go_enter Tryd.func59, Tryd.ntmps59
    go_wp2
    go_ret
    refine RetX.mk false (Up.refl _) (decide_eq_false Hx.out) rfl
end Go.Proofs.YtafhcppigpjcpaaDoor
