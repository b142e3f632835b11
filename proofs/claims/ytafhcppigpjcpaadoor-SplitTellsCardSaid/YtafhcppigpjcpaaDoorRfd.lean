/- The walk of the reference's Derive. -/
import Derived.Test.YtafhcppigpjcpaaDoorRfs
import Derived.Test.YtafhcppigpjcpaaDoorPolyd
import Derived.Maps.AppendAt
set_option linter.unusedVariables false
set_option linter.unusedSimpArgs false
namespace Go.Proofs.YtafhcppigpjcpaaDoor
open Go.RowKit

def ilN (w : World) : Except Nat (List Int) → Value → Prop
  | .ok l, v => ∃ A c, v = .tuple #[.slice A l.length c, .int .i64 0] ∧ RdI w A l ∧ l.length ≤ c
  | .error n, v => v = .tuple #[.slice none 0 0, .int .i64 n]
theorem ilN_error {w : World} {n : Nat} {v : Value} (h : ilN w (.error n) v) : v = .tuple #[.slice none 0 0, .int .i64 n] := h
theorem ilN_ok {w : World} {l : List Int} {v : Value} (h : ilN w (.ok l) v) : ∃ A c, v = .tuple #[.slice A l.length c, .int .i64 0] ∧ RdI w A l ∧ l.length ≤ c := h
set_option maxRecDepth 100000 in
set_option maxHeartbeats 2000000 in
theorem rderive_any (A : Option Addr) (p : List Int) (c : Nat) (w : World) (h0 : 0 < p.length) (h5 : p.length ≤ 5) (hr : RdI w A p) (hp : ∀ n ∈ p, M n) :
    Calls Tryd.prog 57 #[.slice A p.length c] w (RetR ilN (slopeF p) w) := by
  obtain ⟨b, o, rfl, hb, hc⟩ := hr (by intro h; simp [h] at h0)
  by_cases h1 : p.length = 1
  · rw [slope_one h1, h1]
    clear hc
    go_enter Tryd.func57, Tryd.ntmps57
    go_wp2
    go_ret2
    refine RetR.mk (.ok [0] : Except Nat (List Int)) ?_ rfl (rel := ilN) ⟨_, 1, rfl, fun _ => ⟨w.heap.size, 0, rfl, by simp, fun k hk => ?_⟩, by simp⟩
    · (repeat (first | (with_reducible exact Up.refl _) | (with_reducible assumption) | (with_reducible refine Up.alloc ?_ _) | (with_reducible refine Up.drew ?_) | ((with_reducible refine Up.set ?_ ?_ _); rotate_left; focus (first | omega | (simp; done) | (simp; omega))) | (with_reducible refine Up.drewN ?_ _) | (with_reducible refine Up.call ?_ (by with_reducible assumption))))
    · obtain rfl : k = 0 := by simpa using hk
      go_simp
  · rw [slope_more h1]
    obtain ⟨i0, hi0, hz0, hz1, hz2⟩ := info_parts Tryd.infoInt
    have hd1 : ((p.length : Int) == 1) = false := beq_eq_false_iff_ne.2 (by omega)
    have Hc := hid hc; clear hc
    go_enter Tryd.func57, Tryd.ntmps57
    go_wp2
    go_loopw [4, 5] (fun v i wr => ∃ (m : Nat) (L : List Int), 1 ≤ m ∧ m ≤ p.length ∧ i = .int .i64 m ∧ Hid (L.length + 1 = m) ∧ wr.ownsRow w.heap.size 3 1 v L.length (ints L) ∧ Up w wr ∧ Hid (preL [] (slopeG 1 (p.drop 1)) = preL L (slopeG m (p.drop m)))) (fun _ i _ => p.length - (intOf i).toNat)
    case atStart => exact ⟨1, [], by omega, by omega, rfl, rfl, World.ownsRow_nil _ _ _ _, Up.refl _, rfl⟩
    case round =>
      obtain ⟨m, L, hm1, hmp, rfl, HL, hown, hU, H⟩ := hrel
      by_cases hlt : m < p.length
      · have hd : decide ((m : Int) < (p.length : Int)) = true := by simp; omega
        have hml : (m : Int) < (p.length : Int) := by omega
        have hck : wr.cell? ⟨b, o + m, none⟩ = some (.int .i64 (p[m]?.getD 0)) := (Below.cell hU (p := ⟨b, o + m, none⟩) hb).trans (Hc.out m hlt)
        have hn : M (p[m]?.getD 0) := M_getD hp m
        have Hdr := hid (getD_drop p m hlt)
        generalize p[m]?.getD 0 = n at *
        obtain ⟨n1, n2⟩ := hn
        have n3 : -5000000000 ≤ n * (m : Int) ∧ n * (m : Int) ≤ 5000000000 := by
          have hk4 : m = 1 ∨ m = 2 ∨ m = 3 ∨ m = 4 := by omega
          rcases hk4 with rfl | rfl | rfl | rfl <;> simp <;> omega
        obtain ⟨n4, n5⟩ := n3
        have HL4 := hid (show L.length ≤ 4 by have := HL.out; omega)
        cases hm : mayB (n * (m : Int)) with
        | false =>
          have Hm := hid hm; clear hm
          go_wp2_with ((go_at_call 113; refine (rmay_any _ _).mono ?_; rintro e w' ⟨rfl, rfl⟩); rw [Hm.out])
          go_ret2
          refine RetR.mk (.error 4 : Except Nat (List Int)) hU ?_ (rel := ilN) rfl
          rw [H.out, Hdr.out]
          exact slopeG_bad (fun h => mayB_false.1 Hm.out h)
        | true =>
          have Hm := hid hm; clear hm
          go_wp2_with (first
            | ((go_at_call 113; refine (rmay_any _ _).mono ?_; rintro e w' ⟨rfl, rfl⟩); rw [Hm.out])
            | (at_builtin; refine wpList_append_own_at _ rfl (.tmp 28) (.tmp 30) _ rfl w.heap.size 3 i0 (.int .i64 0) 1 8 Tryd.underlying38 hi0 hz0 hz1 hz2 rfl (by decide) _ _ _ rfl (hown.alloc _) ⟨wr.heap.size, 0, none⟩ 1 1 [.int .i64 (n * (m : Int))] rfl rfl (cell_one_new _ _ _) (by simp [Value.oneCell']) (by have := HL4.out; unfold maxLen; omega) (by have := HL4.out; omega) (by have := hU.le; simp; omega) ?_; intro v8 w1 own8 g8 _ at8))
          go_roundw
          case rel =>
            refine ⟨m + 1, L ++ [n * (m : Int)], by omega, by omega, by go_num, ?_, ?_, ?_, ?_⟩
            · show _ = _
              have := HL.out; simp; omega
            · rw [ints_snoc] at own8; simpa using own8
            · exact Below.grown (hU.alloc _) g8 (hU.alloc _).le (fun j hj => (hown.lt j hj).1)
            · show _ = _
              rw [H.out, Hdr.out]
              exact slopeG_ok (mayB_true.1 Hm.out)
          case measure => simp [intOf]; omega
      · obtain rfl : m = p.length := by omega
        obtain ⟨g, cp, hv, _, hg⟩ := own_form hown (by have := HL.out; omega)
        have hcp : L.length ≤ cp := by
          rcases hown.2 with ⟨_, h⟩ | ⟨g', cap', cur, hv', _, _, hle, _⟩
          · have := HL.out; omega
          · rw [hv] at hv'; injection hv' with _ _ e3; omega
        have hrd := rdi_own hown hv hg
        rw [hv]
        have Hrd := hid hrd
        clear hown hv hrd
        go_wp2
        go_ret2
        refine RetR.mk (.ok L : Except Nat (List Int)) hU ?_ (rel := ilN) ⟨some ⟨g, 0, none⟩, cp, rfl, Hrd.out, hcp⟩
        rw [H.out, List.drop_length]
        simp [slopeG, preL]
end Go.Proofs.YtafhcppigpjcpaaDoor
