/- The walks of package poly: Slope, Derive. -/
import Derived.Test.YtafhcppigpjcpaaDoorPolyc
import Derived.Maps.AppendAt
set_option linter.unusedVariables false
set_option linter.unusedSimpArgs false
namespace Go.Proofs.YtafhcppigpjcpaaDoor
open Go.RowKit

def preL (L : List Int) : Except Nat (List Int) → Except Nat (List Int)
  | .error e => .error e
  | .ok l => .ok (L ++ l)
theorem preL_nil (r : Except Nat (List Int)) : preL [] r = r := by cases r <;> rfl
theorem slopeG_ok {k : Nat} {n : Int} {p L : List Int} (h : M (n * k)) : preL L (slopeG k (n :: p)) = preL (L ++ [n * k]) (slopeG (k + 1) p) := by
  conv => lhs; unfold slopeG
  rw [if_pos h]
  cases slopeG (k + 1) p <;> simp [preL]
theorem slopeG_bad {k : Nat} {n : Int} {p L : List Int} (h : ¬ M (n * k)) : preL L (slopeG k (n :: p)) = .error 4 := by
  unfold slopeG
  rw [if_neg h]
  rfl
theorem slope_one {p : List Int} (h : p.length = 1) : slopeF p = .ok [0] := by simp [slopeF, h]
theorem slope_more {p : List Int} (h : p.length ≠ 1) : slopeF p = preL [] (slopeG 1 (p.drop 1)) := by rw [preL_nil]; simp [slopeF, h, List.drop_one]

set_option maxRecDepth 100000 in
set_option maxHeartbeats 2000000 in
theorem slope_any (A : Option Addr) (p : List Int) (c : Nat) (w : World) (h0 : 0 < p.length) (h5 : p.length ≤ 5) (hcap : p.length ≤ c) (hr : RdI w A p) (hp : ∀ n ∈ p, M n) :
    Calls Tryd.prog 117 #[.slice A p.length c] w (RetR ilR (slopeF p) w) := by
  obtain ⟨b, o, rfl, hb, hc⟩ := hr (by intro h; simp [h] at h0)
  by_cases h1 : p.length = 1
  · rw [slope_one h1, h1]
    clear hc
    go_enter Tryd.func117, Tryd.ntmps117
    go_wp2
    go_ret2
    refine RetR.mk (.ok [0] : Except Nat (List Int)) ?_ rfl (rel := ilR) ⟨_, 1, rfl, fun _ => ⟨w.heap.size, 0, rfl, by simp, fun k hk => ?_⟩, by simp⟩
    · (repeat (first | (with_reducible exact Up.refl _) | (with_reducible assumption) | (with_reducible refine Up.alloc ?_ _) | (with_reducible refine Up.drew ?_) | ((with_reducible refine Up.set ?_ ?_ _); rotate_left; focus (first | omega | (simp; done) | (simp; omega))) | (with_reducible refine Up.drewN ?_ _) | (with_reducible refine Up.call ?_ (by with_reducible assumption))))
    · obtain rfl : k = 0 := by simpa using hk
      go_simp
  · rw [slope_more h1]
    obtain ⟨i0, hi0, hz0, hz1, hz2⟩ := info_parts Tryd.infoInt
    have hd1 : ((p.length : Int) == 1) = false := beq_eq_false_iff_ne.2 (by omega)
    have hc1 : ¬ c = 1 := by omega
    have hl1 : 1 ≤ p.length := by omega
    have Hc := hid hc; clear hc
    go_enter Tryd.func117, Tryd.ntmps117
    go_wp2
    go_loopw [4, 15] (fun v i wr => ∃ (k : Nat) (L : List Int), k ≤ p.length - 1 ∧ i = .int .i64 k ∧ Hid (L.length = k) ∧ wr.ownsRow w.heap.size 3 1 v L.length (ints L) ∧ Up w wr ∧ Hid (preL [] (slopeG 1 (p.drop 1)) = preL L (slopeG (k + 1) (p.drop (k + 1))))) (fun _ i _ => p.length - 1 - (intOf i).toNat)
    case atStart => exact ⟨0, [], by omega, rfl, rfl, World.ownsRow_nil _ _ _ _, Up.refl _, rfl⟩
    case round =>
      obtain ⟨k, L, hk, rfl, HL, hown, hU, H⟩ := hrel
      by_cases hlt : k < p.length - 1
      · have hd : decide ((k : Int) < ((p.length - 1 : Nat) : Int)) = true := by simp; omega
        have hck : wr.cell? ⟨b, o + 1 + k, none⟩ = some (.int .i64 (p[k + 1]?.getD 0)) := by
          have := Hc.out (k + 1) (by omega)
          rw [show o + (k + 1) = o + 1 + k by omega] at this
          exact (Below.cell hU (p := ⟨b, o + 1 + k, none⟩) hb).trans this
        have hn : M (p[k + 1]?.getD 0) := M_getD hp (k + 1)
        have Hdr := hid (getD_drop p (k + 1) (by omega))
        generalize p[k + 1]?.getD 0 = n at *
        obtain ⟨n1, n2⟩ := hn
        have n3 : -5000000000 ≤ n * ((k : Int) + 1) ∧ n * ((k : Int) + 1) ≤ 5000000000 := by
          have hk4 : k = 0 ∨ k = 1 ∨ k = 2 ∨ k = 3 := by omega
          rcases hk4 with rfl | rfl | rfl | rfl <;> simp <;> omega
        obtain ⟨n4, n5⟩ := n3
        have HL4 := hid (show L.length ≤ 4 by have := HL.out; omega)
        cases hm : mayB (n * ((k : Int) + 1)) with
        | false =>
          have Hm := hid hm; clear hm
          go_wp2_with ((go_at_call 95; refine (may_any _ _).mono ?_; rintro e w' ⟨rfl, rfl⟩); rw [Hm.out])
          go_ret2
          refine RetR.mk (.error 4 : Except Nat (List Int)) hU ?_ (rel := ilR) rfl
          rw [H.out, Hdr.out]
          exact slopeG_bad (fun h => mayB_false.1 Hm.out (by simpa using h))
        | true =>
          have Hm := hid hm; clear hm
          go_wp2_with (first
                        | ((go_at_call 95; refine (may_any _ _).mono ?_; rintro e w' ⟨rfl, rfl⟩); rw [Hm.out])
                        | (at_builtin; refine wpList_append_own_at _ rfl (.tmp 28) (.tmp 30) _ rfl w.heap.size 3 i0 (.int .i64 0) 1 8 Tryd.underlying38 hi0 hz0 hz1 hz2 rfl (by decide) _ _ _ rfl (hown.alloc _) ⟨wr.heap.size, 0, none⟩ 1 1 [.int .i64 (n * ((k : Int) + 1))] rfl rfl (cell_one_new _ _ _) (by simp [Value.oneCell']) (by have := HL4.out; unfold maxLen; omega) (by have := HL4.out; omega) (by have := hU.le; simp; omega) ?_; intro v8 w1 own8 g8 _ at8))
          go_roundw
          case rel =>
            refine ⟨k + 1, L ++ [n * ((k : Int) + 1)], by omega, by go_num, ?_, ?_, ?_, ?_⟩
            · show _ = _
              have := HL.out; simp; omega
            · rw [ints_snoc] at own8; simpa using own8
            · exact Below.grown (hU.alloc _) g8 (hU.alloc _).le (fun j hj => (hown.lt j hj).1)
            · show _ = _
              rw [H.out, Hdr.out]
              exact slopeG_ok (by have := mayB_true.1 Hm.out; simpa using this)
          case measure => simp [intOf]; omega
      · obtain rfl : k = p.length - 1 := by omega
        obtain ⟨g, cp, hv, _, hg⟩ := own_form hown (by have := HL.out; omega)
        have hcp : L.length ≤ cp := by
          rcases hown.2 with ⟨_, h⟩ | ⟨g', cap', cur, hv', _, _, hle, _⟩
          · have := HL.out; omega
          · rw [hv] at hv'; injection hv' with _ _ e3; omega
        have hrd := rdi_own hown hv hg
        rw [hv]
        have Hrd := hid hrd
        clear hown hv hrd
        go_wp2
        go_ret2
        refine RetR.mk (.ok L : Except Nat (List Int)) hU ?_ (rel := ilR) ⟨some ⟨g, 0, none⟩, cp, rfl, Hrd.out, hcp⟩
        rw [H.out, show p.length - 1 + 1 = p.length by omega, List.drop_length]
        simp [slopeG, preL]
end Go.Proofs.YtafhcppigpjcpaaDoor
