/- The walk of the reference's Pieces. -/
import Derived.Test.YtafhcppigpjcpaaDoorRfs
import Derived.Test.YtafhcppigpjcpaaDoorSplit
import Derived.Test.YtafhcppigpjcpaaDoorClone
import Derived.Deep.DeepCutAuto

set_option linter.unusedVariables false
set_option linter.unusedSimpArgs false
namespace Go.Proofs.YtafhcppigpjcpaaDoor
open Go.RowKit

set_option maxRecDepth 100000 in
set_option maxHeartbeats 2000000 in
theorem rpieces_any (lo hi : Int) (m : Nat) (w : World) (hx : Rt ⟨lo, hi⟩) (h0 : 0 < m) (h32 : m ≤ 32) :
    Calls Tryd.prog 76 #[.agg #[.int .i64 lo, .int .i64 hi], .int .i64 m] w (RetR (ownR w.heap.size) (piecesF ⟨lo, hi⟩ m) w) := by
  obtain ⟨i0, hi0, hz0, hz1, hz2⟩ := info_parts Tryd.infoSpan
  have Hb := hid (fun k (hk : k ≤ m) => piece_bd (x := ⟨lo, hi⟩) hx hk h0 h32)
  obtain ⟨⟨r1, r2⟩, ⟨r3, r4⟩, r5⟩ := hx
  dsimp only at r1 r2 r3 r4 r5
  go_enter Tryd.func76, Tryd.ntmps76
  go_wp2
  obtain ⟨W1, hW1⟩ : ∃ W1, W1 = ((w).alloc (Obj.cells #[Value.int IntKind.i64 lo, Value.int IntKind.i64 hi] 23)) := ⟨_, rfl⟩
  rw [← hW1]
  have cx0 : W1.cell? ⟨w.heap.size, 0, none⟩ = some (.int .i64 lo) := by rw [hW1]; go_simp
  have cx1 : W1.cell? ⟨w.heap.size, 1, none⟩ = some (.int .i64 hi) := by rw [hW1]; go_simp
  have hUw : Up w W1 := by rw [hW1]; exact (Up.refl w).alloc _
  have hl1 : w.heap.size < W1.heap.size := by rw [hW1]; simp
  clear hW1
  go_loopw [5, 6] (fun v i wr => ∃ k : Nat, k ≤ m ∧ i = .int .i64 k ∧ OwnS wr W1.heap.size v ((List.range k).map (pieceAt ⟨lo, hi⟩ m)) ∧ Up W1 wr) (fun _ i _ => m - (intOf i).toNat)
  case atStart => exact ⟨0, by omega, rfl, OwnS.nil _ _, Up.refl _⟩
  case round =>
    obtain ⟨k, hk, rfl, hown, hU⟩ := hrel
    have gr := (bcell hU).1
    have hle := hU.le
    have d0 : wr.cell? ⟨w.heap.size, 0, none⟩ = some (.int .i64 lo) := (gr _ _ hl1).trans cx0
    have d1 : wr.cell? ⟨w.heap.size, 1, none⟩ = some (.int .i64 hi) := (gr _ _ hl1).trans cx1
    have l0 : w.heap.size < wr.heap.size := by omega
    by_cases hlt : k < m
    · obtain ⟨p1, p2, p3, p4, p5⟩ := Hb.out (k + 1) (by omega)
      obtain ⟨q1, q2, p6, p7, q5⟩ := Hb.out k hk
      have hst := pieces_step ⟨lo, hi⟩ m k
      have hat : pieceAt ⟨lo, hi⟩ m k = ⟨pieceEnd ⟨lo, hi⟩ m k, pieceEnd ⟨lo, hi⟩ m (k + 1)⟩ := rfl
      have hpe : pieceEnd ⟨lo, hi⟩ m (k + 1) = lo + ((hi - lo) * ((k : Int) + 1)).tdiv m := by
        rw [show ((k + 1 : Nat) : Int) = (k : Int) + 1 from rfl] at p5
        rw [p5]
        rfl
      have hpk : pieceEnd ⟨lo, hi⟩ m k = lo + ((hi - lo) * (k : Int)).tdiv m := by
        rw [q5]
        rfl
      rw [hat] at hst
      have Hst := hid hst
      clear hst hat
      rw [show ((k + 1 : Nat) : Int) = (k : Int) + 1 from rfl] at p1 p2
      rw [hpe] at p3 p4
      rw [hpk] at p6 p7
      rw [hpe, hpk] at Hst
      clear p5 hpe hpk q5
      have hL := hid (show ((List.range k).map (pieceAt ⟨lo, hi⟩ m)).length ≤ 1000 by simp; omega)
      generalize (List.range k).map (pieceAt ⟨lo, hi⟩ m) = L at *
      have hdk : decide ((k : Int) < (m : Int)) = true := by simp; omega
      have hm0 : ((m : Int) == 0) = false := by simp; omega
      have Hown := hid hown; clear hown
      obtain ⟨a1, ha1⟩ : ∃ a, lo + ((hi - lo) * (k : Int)).tdiv m = a := ⟨_, rfl⟩
      obtain ⟨a2, ha2⟩ : ∃ a, lo + ((hi - lo) * ((k : Int) + 1)).tdiv m = a := ⟨_, rfl⟩
      rw [ha1, ha2] at Hst
      have Ha1 := hid ha1; have Ha2 := hid ha2
      clear ha1 ha2
      go_upto_region 5 with fail
      go_cut [7] (fun s7 wx => ∃ (g : Nat), s7 = .pointer (some ⟨g, 0, none⟩) ∧ g < wx.heap.size ∧ wx.cell? ⟨g, 0, none⟩ = some (.int .i64 a1) ∧ wx.cell? ⟨g, 1, none⟩ = some (.int .i64 a2) ∧ Hid (OwnS wx W1.heap.size u5 L) ∧ Up W1 wx)
      case first =>
        go_region
        all_goals
          go_wp2_with fail
          go_meet
          refine ⟨_, rfl, ?_, ?_, ?_, ?_, ?_⟩
          · first | (simp; done) | (simp; omega) | omega
          · first | (go_simp; exact congrArg (fun x => some (Value.int .i64 x)) Ha1.out) | (go_simp; rw [Ha1.out])
          · first | (go_simp; exact congrArg (fun x => some (Value.int .i64 x)) Ha2.out) | (go_simp; rw [Ha2.out])
          · show OwnS _ _ _ _
            have hn : ∀ o : Nat, u5.ownBlock ≠ some (⟨wr.heap.size, o, none⟩ : Addr).block := fun o e => by have := (Hown.out.lt _ e).2; simp at this
            first | exact Hown.out.up (by (repeat (first | (with_reducible exact Up.refl _) | (with_reducible assumption) | (with_reducible refine Up.alloc ?_ _) | (with_reducible refine Up.drew ?_) | ((with_reducible refine Up.set ?_ ?_ _); rotate_left; focus (first | omega | (simp; done) | (simp; omega))) | (with_reducible refine Up.drewN ?_ _) | (with_reducible refine Up.call ?_ (by with_reducible assumption))))) | exact (((Hown.out.up (by (repeat (first | (with_reducible exact Up.refl _) | (with_reducible assumption) | (with_reducible refine Up.alloc ?_ _) | (with_reducible refine Up.drew ?_) | ((with_reducible refine Up.set ?_ ?_ _); rotate_left; focus (first | omega | (simp; done) | (simp; omega))) | (with_reducible refine Up.drewN ?_ _) | (with_reducible refine Up.call ?_ (by with_reducible assumption)))))).set (hn _) _).set (hn _) _)
          · (repeat (first | (with_reducible exact Up.refl _) | (with_reducible assumption) | (with_reducible refine Up.alloc ?_ _) | (with_reducible refine Up.drew ?_) | ((with_reducible refine Up.set ?_ ?_ _); rotate_left; focus (first | omega | (simp; done) | (simp; omega))) | (with_reducible refine Up.drewN ?_ _) | (with_reducible refine Up.call ?_ (by with_reducible assumption))))
      case rest =>
        obtain ⟨g, rfl, lg, cg0, cg1, Hown1, HU1⟩ := hcut
        have hle1 := HU1.le
        have HU := hid HU1; clear HU1
        go_wp2_with (at_builtin; refine wpList_append_own_at _ rfl (.tmp 39) (.tmp 41) _ rfl W1.heap.size 23 i0 (.agg #[.int .i64 0, .int .i64 0]) 2 16 Tryd.underlying37 hi0 hz0 hz1 hz2 rfl (by decide) _ _ _ rfl (Hown1.out.up ((Up.refl wc).alloc _)) ⟨wc.heap.size, 0, none⟩ 1 1 [.int .i64 a1, .int .i64 a2] rfl rfl (cell_two_new _ _ _ _) (by simp [Value.oneCell']) (by have := hL.out; unfold maxLen; omega) (by have := hL.out; omega) (by simp; omega) ?_; intro v8 w2 own8 g8 _ at8)
        go_roundw
        case rel =>
          refine ⟨k + 1, by omega, by go_num, ?_, OwnS.grown (HU.out.alloc _) (Hown1.out.up ((Up.refl wc).alloc _)) g8⟩
          rw [Hst.out]; exact OwnS.snoc own8
        case measure => simp [intOf]; omega
    · obtain rfl : k = m := by omega
      have Hown := hid hown; clear hown
      go_wp2
      go_ret
      exact RetR.mk (piecesF ⟨lo, hi⟩ k) (hUw.call hU) rfl (rel := ownR w.heap.size) (World.ownsRow.mono Hown.out (Nat.le_of_lt hl1))
end Go.Proofs.YtafhcppigpjcpaaDoor
