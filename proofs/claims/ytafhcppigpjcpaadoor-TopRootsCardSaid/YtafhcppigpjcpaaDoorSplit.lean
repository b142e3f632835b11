/- The walks of package split. -/
import Derived.Test.YtafhcppigpjcpaaDoorOwnS
import Derived.Test.YtafhcppigpjcpaaDoorBoxd
import Derived.Test.YtafhcppigpjcpaaDoorMono
import Derived.Test.YtafhcppigpjcpaaDoorHas
set_option linter.unusedVariables false
set_option linter.unusedSimpArgs false
namespace Go.Proofs.YtafhcppigpjcpaaDoor
open Go.RowKit

def pieceAt (x : Sp) (m : Nat) (i : Nat) : Sp := ⟨pieceEnd x m i, pieceEnd x m (i + 1)⟩
theorem piecesF_eq (x : Sp) (m : Nat) : piecesF x m = (List.range m).map (pieceAt x m) := rfl
theorem pieces_step (x : Sp) (m k : Nat) : (List.range (k + 1)).map (pieceAt x m) = (List.range k).map (pieceAt x m) ++ [pieceAt x m k] := by
  rw [List.range_succ, List.map_append]; rfl
theorem piece_bd {x : Sp} {m k : Nat} (hx : Rt x) (hk : k ≤ m) (h0 : 0 < m) (h32 : m ≤ 32) : 0 ≤ (x.hi - x.lo) * (k : Int) ∧ (x.hi - x.lo) * (k : Int) ≤ 64000000000 ∧ x.lo ≤ pieceEnd x m k ∧ pieceEnd x m k ≤ x.hi ∧ ((x.hi - x.lo) * (k : Int)).tdiv m = (x.hi - x.lo) * (k : Int) / m := by
  obtain ⟨⟨a, b⟩, ⟨c, d⟩, e⟩ := hx
  have h1 : 0 ≤ (x.hi - x.lo) * (k : Int) := Int.mul_nonneg (by omega) (by omega)
  have h2 : (x.hi - x.lo) * (k : Int) ≤ (x.hi - x.lo) * (m : Int) := Int.mul_le_mul_of_nonneg_left (by omega) (by omega)
  have h3 : ((x.hi - x.lo) * (k : Int)).natAbs ≤ 2000000000 * 32 := by rw [Int.natAbs_mul]; exact Nat.mul_le_mul (by omega) (by omega)
  have h4 : (x.hi - x.lo) * (k : Int) / (m : Int) ≤ x.hi - x.lo := by
    apply Int.ediv_le_of_le_mul (by omega) h2
  have h5 : 0 ≤ (x.hi - x.lo) * (k : Int) / (m : Int) := Int.ediv_nonneg h1 (by omega)
  refine ⟨h1, by omega, ?_, ?_, ?_⟩
  · unfold pieceEnd; omega
  · unfold pieceEnd; omega
  · exact Int.tdiv_eq_ediv_of_nonneg h1
set_option maxRecDepth 100000 in
set_option maxHeartbeats 2000000 in
theorem pieces_any (lo hi : Int) (m : Nat) (w : World) (hx : Rt ⟨lo, hi⟩) (h0 : 0 < m) (h32 : m ≤ 32) :
    Calls Tryd.prog 107 #[.agg #[.int .i64 lo, .int .i64 hi], .int .i64 m] w (RetR (slN (w.heap.size + 1)) (piecesF ⟨lo, hi⟩ m) w) := by
  obtain ⟨i0, hi0, hz0, hz1, hz2⟩ := info_parts Tryd.infoSpan
  have Hb := hid (fun k (hk : k ≤ m) => piece_bd (x := ⟨lo, hi⟩) hx hk h0 h32)
  obtain ⟨⟨r1, r2⟩, ⟨r3, r4⟩, r5⟩ := hx
  dsimp only at r1 r2 r3 r4 r5
  go_enter Tryd.func107, Tryd.ntmps107
  go_wp2
  obtain ⟨W1, hW1⟩ : ∃ W1, W1 = ((w).alloc (Obj.cells #[Value.int IntKind.i64 lo, Value.int IntKind.i64 hi] 23)) := ⟨_, rfl⟩
  rw [← hW1]
  have cx0 : W1.cell? ⟨w.heap.size, 0, none⟩ = some (.int .i64 lo) := by rw [hW1]; go_simp
  have cx1 : W1.cell? ⟨w.heap.size, 1, none⟩ = some (.int .i64 hi) := by rw [hW1]; go_simp
  have fx : ∀ o, W1.frozen? ⟨w.heap.size, o, none⟩ = false := by rw [hW1]; intro o; go_simp
  have hUw : Up w W1 := by rw [hW1]; exact (Up.refl w).alloc _
  have hl1 : w.heap.size < W1.heap.size := by rw [hW1]; simp
  clear hW1
  go_loopw [5, 6, 12] (fun v f i wr => ∃ k : Nat, k ≤ m ∧ i = .int .i64 k ∧ f = .int .i64 (pieceEnd ⟨lo, hi⟩ m k) ∧ OwnS wr W1.heap.size v ((List.range k).map (pieceAt ⟨lo, hi⟩ m)) ∧ Up W1 wr) (fun _ _ i _ => m - (intOf i).toNat)
  case atStart => exact ⟨0, by omega, rfl, by rw [pieceEnd_zero], OwnS.nil _ _, Up.refl _⟩
  case round =>
    obtain ⟨k, hk, rfl, rfl, hown, hU⟩ := hrel
    have gr := (bcell hU).1
    have fr := (bcell hU).2
    have hle := hU.le
    have d0 : wr.cell? ⟨w.heap.size, 0, none⟩ = some (.int .i64 lo) := (gr _ _ hl1).trans cx0
    have d1 : wr.cell? ⟨w.heap.size, 1, none⟩ = some (.int .i64 hi) := (gr _ _ hl1).trans cx1
    have d2 : ∀ o, wr.frozen? ⟨w.heap.size, o, none⟩ = false := fun o => (fr _ _ hl1).trans (fx o)
    by_cases hlt : k < m
    · obtain ⟨p1, p2, p3, p4, p5⟩ := Hb.out (k + 1) (by omega)
      obtain ⟨-, -, p6, p7, -⟩ := Hb.out k hk
      have hst := pieces_step ⟨lo, hi⟩ m k
      have hat : pieceAt ⟨lo, hi⟩ m k = ⟨pieceEnd ⟨lo, hi⟩ m k, pieceEnd ⟨lo, hi⟩ m (k + 1)⟩ := rfl
      have hpe : pieceEnd ⟨lo, hi⟩ m (k + 1) = lo + ((hi - lo) * ((k : Int) + 1)).tdiv m := by
        rw [show ((k + 1 : Nat) : Int) = (k : Int) + 1 from rfl] at p5
        rw [p5]
        rfl
      rw [hat] at hst
      have Hst := hid hst
      clear hst hat
      rw [show ((k + 1 : Nat) : Int) = (k : Int) + 1 from rfl] at p1 p2
      rw [hpe] at p3 p4
      rw [hpe] at Hst
      have Hpe := hid hpe
      clear p5 hpe
      generalize pieceEnd ⟨lo, hi⟩ m k = E at *
      have hL := hid (show ((List.range k).map (pieceAt ⟨lo, hi⟩ m)).length ≤ 1000 by simp; omega)
      generalize (List.range k).map (pieceAt ⟨lo, hi⟩ m) = L at *
      have hdk : decide ((k : Int) < (m : Int)) = true := by simp; omega
      have hm0 : ((m : Int) == 0) = false := by simp; omega
      have Hown := hid hown; clear hown
      go_wp2_with fail
      go_quiet (fail)
      go_wp2_with (at_builtin; refine wpList_append_own_at _ rfl (.tmp 28) (.tmp 32) _ rfl W1.heap.size 23 i0 (.agg #[.int .i64 0, .int .i64 0]) 2 16 Tryd.underlying37 hi0 hz0 hz1 hz2 rfl (by decide) _ _ _ rfl (Hown.out.up (((Up.refl wr).drewN nq).alloc _)) ⟨wr.heap.size, 0, none⟩ 1 1 [.int .i64 E, .int .i64 (lo + ((hi - lo) * ((k : Int) + 1)).tdiv m)] rfl rfl (cell_two_new _ _ _ _) (by simp [Value.oneCell']) (by have := hL.out; unfold maxLen; omega) (by have := hL.out; omega) (by simp; omega) ?_; intro v8 w2 own8 g8 _ at8)
      go_roundw
      case rel =>
        refine ⟨k + 1, by omega, by go_num, by rw [Hpe.out], ?_, ?_⟩
        · rw [Hst.out]; exact OwnS.snoc own8
        · exact OwnS.grown ((hU.drewN nq).alloc _) (Hown.out.up (((Up.refl wr).drewN nq).alloc _)) g8
      case measure => simp [intOf]; omega
    · obtain rfl : k = m := by omega
      obtain ⟨A', c', hv, hrd1, hc1, hn1⟩ := hown.rdN
      subst hv
      have Hrd := hid hrd1
      have Hn1 := hid hn1
      have hlen : ((List.range k).map (pieceAt ⟨lo, hi⟩ k)).length = k := by simp
      clear hown hrd1 hn1
      go_wp2
      go_ret
      refine RetR.mk (piecesF ⟨lo, hi⟩ k) (hUw.call hU) rfl (rel := slN (w.heap.size + 1)) ⟨A', c', rfl, Hrd.out, hc1, fun b o e => Nat.le_trans hl1 (Hn1.out b o e)⟩
theorem scheck_any (many : Int) (w : World) : Calls Tryd.prog 106 #[.int .i64 many] w (RetX boolV (decide (1 ≤ many ∧ many ≤ 32)) w) := by
  by_cases h1 : 1 ≤ many
  · have d1 : decide (1 ≤ many) = true := by simpa using h1
    by_cases h2 : many ≤ 32
    · have d2 : decide (many ≤ 32) = true := by simpa using h2
      have hr : decide (1 ≤ many ∧ many ≤ 32) = true := by simp; omega
      rw [hr]
      clear hr h1 h2
      go_enter Tryd.func106, Tryd.ntmps106
      go_wp2
      go_ret
      exact RetX.mk true (Up.refl _) rfl rfl
    · have d2 : decide (many ≤ 32) = false := by simpa using h2
      have hr : decide (1 ≤ many ∧ many ≤ 32) = false := by simp; omega
      rw [hr]
      clear hr h1 h2
      go_enter Tryd.func106, Tryd.ntmps106
      go_wp2
      go_ret
      exact RetX.mk false (Up.refl _) rfl rfl
  · have d1 : decide (1 ≤ many) = false := by simpa using h1
    have hr : decide (1 ≤ many ∧ many ≤ 32) = false := by simp; omega
    rw [hr]
    clear hr h1
    go_enter Tryd.func106, Tryd.ntmps106
    go_wp2
    go_ret
    exact RetX.mk false (Up.refl _) rfl rfl
theorem spieces_any (lo hi many : Int) (w : World) :
    Calls Tryd.prog 77 #[.agg #[.int .i64 lo, .int .i64 hi], .int .i64 many] w (RetR slE (spiecesF ⟨lo, hi⟩ many) w) := by
  by_cases hm : 1 ≤ many ∧ many ≤ 32
  · obtain ⟨h1, h2⟩ := hm
    obtain ⟨m, rfl⟩ : ∃ m : Nat, many = (m : Int) := ⟨many.toNat, by omega⟩
    have Hd := hid (show decide (1 ≤ (m : Int) ∧ (m : Int) ≤ 32) = true by rw [decide_eq_true]; omega)
    have h3 : 0 < m := by omega
    have h4 : m ≤ 32 := by omega
    have H3 := hid h3; have H4 := hid h4
    clear h1 h2 h3 h4
    go_enter Tryd.func77, Tryd.ntmps77
    go_wp2_with (first
      | ((go_at_call 26; (with_reducible refine (check_any _ _ _).mono ?_); rintro e w1 ⟨(_|n1), hx1, rfl, hb1⟩) <;> (have hle := Up.le hb1; (try simp only [World.size_alloc, World.size_setCell, World.size_drew, World.heap_drewN] at hle); (try (have _ : w.heap.size < w1.heap.size := (by omega); (try (apply fk hb1 (w.heap.size); (focus (go_simp; rfl)); (focus (intro o; go_simp)); intro z; (try clear f_0); have f_0 := z; clear z)); (try (apply ck hb1 (w.heap.size) 0; (focus (go_simp; rfl)); intro z; (try clear c_0_0); have c_0_0 := z; clear z; (try (apply ck hb1 (w.heap.size) 1; (focus (go_simp; rfl)); intro z; (try clear c_0_1); have c_0_1 := z; clear z)))); (try (have _ : w.heap.size + 1 < w1.heap.size := (by omega); (try (apply fk hb1 (w.heap.size + 1); (focus (go_simp; rfl)); (focus (intro o; go_simp)); intro z; (try clear f_1); have f_1 := z; clear z)); (try (apply ck hb1 (w.heap.size + 1) 0; (focus (go_simp; rfl)); intro z; (try clear c_1_0); have c_1_0 := z; clear z; (try (apply ck hb1 (w.heap.size + 1) 1; (focus (go_simp; rfl)); intro z; (try clear c_1_1); have c_1_1 := z; clear z)))); (try (have _ : w.heap.size + 1 + 1 < w1.heap.size := (by omega); (try (apply fk hb1 (w.heap.size + 1 + 1); (focus (go_simp; rfl)); (focus (intro o; go_simp)); intro z; (try clear f_2); have f_2 := z; clear z)); (try (apply ck hb1 (w.heap.size + 1 + 1) 0; (focus (go_simp; rfl)); intro z; (try clear c_2_0); have c_2_0 := z; clear z; (try (apply ck hb1 (w.heap.size + 1 + 1) 1; (focus (go_simp; rfl)); intro z; (try clear c_2_1); have c_2_1 := z; clear z)))); (try (have _ : w.heap.size + 1 + 1 + 1 < w1.heap.size := (by omega); (try (apply fk hb1 (w.heap.size + 1 + 1 + 1); (focus (go_simp; rfl)); (focus (intro o; go_simp)); intro z; (try clear f_3); have f_3 := z; clear z)); (try (apply ck hb1 (w.heap.size + 1 + 1 + 1) 0; (focus (go_simp; rfl)); intro z; (try clear c_3_0); have c_3_0 := z; clear z; (try (apply ck hb1 (w.heap.size + 1 + 1 + 1) 1; (focus (go_simp; rfl)); intro z; (try clear c_3_1); have c_3_1 := z; clear z)))); (try (have _ : w.heap.size + 1 + 1 + 1 + 1 < w1.heap.size := (by omega); (try (apply fk hb1 (w.heap.size + 1 + 1 + 1 + 1); (focus (go_simp; rfl)); (focus (intro o; go_simp)); intro z; (try clear f_4); have f_4 := z; clear z)); (try (apply ck hb1 (w.heap.size + 1 + 1 + 1 + 1) 0; (focus (go_simp; rfl)); intro z; (try clear c_4_0); have c_4_0 := z; clear z; (try (apply ck hb1 (w.heap.size + 1 + 1 + 1 + 1) 1; (focus (go_simp; rfl)); intro z; (try clear c_4_1); have c_4_1 := z; clear z)))))))))))))); clear hle; (try (apply old_keep (w0 := w) (w := w1); (focus ((repeat (first | (with_reducible exact Up.refl _) | (with_reducible assumption) | (with_reducible refine Up.alloc ?_ _) | (with_reducible refine Up.drew ?_) | ((with_reducible refine Up.set ?_ ?_ _); rotate_left; focus (first | omega | (simp; done) | (simp; omega))) | (with_reducible refine Up.drewN ?_ _) | (with_reducible refine Up.call ?_ (by with_reducible assumption)))))); intro y z; (try clear hUp); (try clear hOld); have hUp := y; have hOld := z; clear y z))))
      | ((go_at_call 106; (with_reducible refine (scheck_any _ _).mono ?_); rintro e w2 ⟨x2, hx2, rfl, hb2⟩ <;> (rw [Hd.out] at hx2; subst hx2)) <;> (have hle := Up.le hb2; (try simp only [World.size_alloc, World.size_setCell, World.size_drew, World.heap_drewN] at hle); (try (have _ : w.heap.size < w2.heap.size := (by omega); (try (apply fk hb2 (w.heap.size); (focus (go_simp; rfl)); (focus (intro o; go_simp)); intro z; (try clear f_0); have f_0 := z; clear z)); (try (apply ck hb2 (w.heap.size) 0; (focus (go_simp; rfl)); intro z; (try clear c_0_0); have c_0_0 := z; clear z; (try (apply ck hb2 (w.heap.size) 1; (focus (go_simp; rfl)); intro z; (try clear c_0_1); have c_0_1 := z; clear z)))); (try (have _ : w.heap.size + 1 < w2.heap.size := (by omega); (try (apply fk hb2 (w.heap.size + 1); (focus (go_simp; rfl)); (focus (intro o; go_simp)); intro z; (try clear f_1); have f_1 := z; clear z)); (try (apply ck hb2 (w.heap.size + 1) 0; (focus (go_simp; rfl)); intro z; (try clear c_1_0); have c_1_0 := z; clear z; (try (apply ck hb2 (w.heap.size + 1) 1; (focus (go_simp; rfl)); intro z; (try clear c_1_1); have c_1_1 := z; clear z)))); (try (have _ : w.heap.size + 1 + 1 < w2.heap.size := (by omega); (try (apply fk hb2 (w.heap.size + 1 + 1); (focus (go_simp; rfl)); (focus (intro o; go_simp)); intro z; (try clear f_2); have f_2 := z; clear z)); (try (apply ck hb2 (w.heap.size + 1 + 1) 0; (focus (go_simp; rfl)); intro z; (try clear c_2_0); have c_2_0 := z; clear z; (try (apply ck hb2 (w.heap.size + 1 + 1) 1; (focus (go_simp; rfl)); intro z; (try clear c_2_1); have c_2_1 := z; clear z)))); (try (have _ : w.heap.size + 1 + 1 + 1 < w2.heap.size := (by omega); (try (apply fk hb2 (w.heap.size + 1 + 1 + 1); (focus (go_simp; rfl)); (focus (intro o; go_simp)); intro z; (try clear f_3); have f_3 := z; clear z)); (try (apply ck hb2 (w.heap.size + 1 + 1 + 1) 0; (focus (go_simp; rfl)); intro z; (try clear c_3_0); have c_3_0 := z; clear z; (try (apply ck hb2 (w.heap.size + 1 + 1 + 1) 1; (focus (go_simp; rfl)); intro z; (try clear c_3_1); have c_3_1 := z; clear z)))); (try (have _ : w.heap.size + 1 + 1 + 1 + 1 < w2.heap.size := (by omega); (try (apply fk hb2 (w.heap.size + 1 + 1 + 1 + 1); (focus (go_simp; rfl)); (focus (intro o; go_simp)); intro z; (try clear f_4); have f_4 := z; clear z)); (try (apply ck hb2 (w.heap.size + 1 + 1 + 1 + 1) 0; (focus (go_simp; rfl)); intro z; (try clear c_4_0); have c_4_0 := z; clear z; (try (apply ck hb2 (w.heap.size + 1 + 1 + 1 + 1) 1; (focus (go_simp; rfl)); intro z; (try clear c_4_1); have c_4_1 := z; clear z)))))))))))))); (try (have _ : w1.heap.size < w2.heap.size := (by omega); (try (apply fk hb2 (w1.heap.size); (focus (go_simp; rfl)); (focus (intro o; go_simp)); intro z; (try clear f1_0); have f1_0 := z; clear z)); (try (apply ck hb2 (w1.heap.size) 0; (focus (go_simp; rfl)); intro z; (try clear c1_0_0); have c1_0_0 := z; clear z; (try (apply ck hb2 (w1.heap.size) 1; (focus (go_simp; rfl)); intro z; (try clear c1_0_1); have c1_0_1 := z; clear z)))); (try (have _ : w1.heap.size + 1 < w2.heap.size := (by omega); (try (apply fk hb2 (w1.heap.size + 1); (focus (go_simp; rfl)); (focus (intro o; go_simp)); intro z; (try clear f1_1); have f1_1 := z; clear z)); (try (apply ck hb2 (w1.heap.size + 1) 0; (focus (go_simp; rfl)); intro z; (try clear c1_1_0); have c1_1_0 := z; clear z; (try (apply ck hb2 (w1.heap.size + 1) 1; (focus (go_simp; rfl)); intro z; (try clear c1_1_1); have c1_1_1 := z; clear z)))))))); clear hle; (try (apply old_keep (w0 := w) (w := w2); (focus ((repeat (first | (with_reducible exact Up.refl _) | (with_reducible assumption) | (with_reducible refine Up.alloc ?_ _) | (with_reducible refine Up.drew ?_) | ((with_reducible refine Up.set ?_ ?_ _); rotate_left; focus (first | omega | (simp; done) | (simp; omega))) | (with_reducible refine Up.drewN ?_ _) | (with_reducible refine Up.call ?_ (by with_reducible assumption)))))); intro y z; (try clear hUp); (try clear hOld); have hUp := y; have hOld := z; clear y z))))
      | ((go_at_call 107; (refine (pieces_any _ _ _ _ (checkF_none.1 hx1) H3.out H4.out).mono ?_); rintro e w3 ⟨x3, v3, hx3, rfl, ⟨A3, c3, rfl, hrd3, hc3, hn3⟩, hb3⟩ <;> (have Hrd3 := hid hrd3; clear hrd3 hn3)) <;> (have hle := Up.le hb3; (try simp only [World.size_alloc, World.size_setCell, World.size_drew, World.heap_drewN] at hle); (try (have _ : w.heap.size < w3.heap.size := (by omega); (try (apply fk hb3 (w.heap.size); (focus (go_simp; rfl)); (focus (intro o; go_simp)); intro z; (try clear f_0); have f_0 := z; clear z)); (try (apply ck hb3 (w.heap.size) 0; (focus (go_simp; rfl)); intro z; (try clear c_0_0); have c_0_0 := z; clear z; (try (apply ck hb3 (w.heap.size) 1; (focus (go_simp; rfl)); intro z; (try clear c_0_1); have c_0_1 := z; clear z)))); (try (have _ : w.heap.size + 1 < w3.heap.size := (by omega); (try (apply fk hb3 (w.heap.size + 1); (focus (go_simp; rfl)); (focus (intro o; go_simp)); intro z; (try clear f_1); have f_1 := z; clear z)); (try (apply ck hb3 (w.heap.size + 1) 0; (focus (go_simp; rfl)); intro z; (try clear c_1_0); have c_1_0 := z; clear z; (try (apply ck hb3 (w.heap.size + 1) 1; (focus (go_simp; rfl)); intro z; (try clear c_1_1); have c_1_1 := z; clear z)))); (try (have _ : w.heap.size + 1 + 1 < w3.heap.size := (by omega); (try (apply fk hb3 (w.heap.size + 1 + 1); (focus (go_simp; rfl)); (focus (intro o; go_simp)); intro z; (try clear f_2); have f_2 := z; clear z)); (try (apply ck hb3 (w.heap.size + 1 + 1) 0; (focus (go_simp; rfl)); intro z; (try clear c_2_0); have c_2_0 := z; clear z; (try (apply ck hb3 (w.heap.size + 1 + 1) 1; (focus (go_simp; rfl)); intro z; (try clear c_2_1); have c_2_1 := z; clear z)))); (try (have _ : w.heap.size + 1 + 1 + 1 < w3.heap.size := (by omega); (try (apply fk hb3 (w.heap.size + 1 + 1 + 1); (focus (go_simp; rfl)); (focus (intro o; go_simp)); intro z; (try clear f_3); have f_3 := z; clear z)); (try (apply ck hb3 (w.heap.size + 1 + 1 + 1) 0; (focus (go_simp; rfl)); intro z; (try clear c_3_0); have c_3_0 := z; clear z; (try (apply ck hb3 (w.heap.size + 1 + 1 + 1) 1; (focus (go_simp; rfl)); intro z; (try clear c_3_1); have c_3_1 := z; clear z)))); (try (have _ : w.heap.size + 1 + 1 + 1 + 1 < w3.heap.size := (by omega); (try (apply fk hb3 (w.heap.size + 1 + 1 + 1 + 1); (focus (go_simp; rfl)); (focus (intro o; go_simp)); intro z; (try clear f_4); have f_4 := z; clear z)); (try (apply ck hb3 (w.heap.size + 1 + 1 + 1 + 1) 0; (focus (go_simp; rfl)); intro z; (try clear c_4_0); have c_4_0 := z; clear z; (try (apply ck hb3 (w.heap.size + 1 + 1 + 1 + 1) 1; (focus (go_simp; rfl)); intro z; (try clear c_4_1); have c_4_1 := z; clear z)))))))))))))); (try (have _ : w1.heap.size < w3.heap.size := (by omega); (try (apply fk hb3 (w1.heap.size); (focus (go_simp; rfl)); (focus (intro o; go_simp)); intro z; (try clear f1_0); have f1_0 := z; clear z)); (try (apply ck hb3 (w1.heap.size) 0; (focus (go_simp; rfl)); intro z; (try clear c1_0_0); have c1_0_0 := z; clear z; (try (apply ck hb3 (w1.heap.size) 1; (focus (go_simp; rfl)); intro z; (try clear c1_0_1); have c1_0_1 := z; clear z)))); (try (have _ : w1.heap.size + 1 < w3.heap.size := (by omega); (try (apply fk hb3 (w1.heap.size + 1); (focus (go_simp; rfl)); (focus (intro o; go_simp)); intro z; (try clear f1_1); have f1_1 := z; clear z)); (try (apply ck hb3 (w1.heap.size + 1) 0; (focus (go_simp; rfl)); intro z; (try clear c1_1_0); have c1_1_0 := z; clear z; (try (apply ck hb3 (w1.heap.size + 1) 1; (focus (go_simp; rfl)); intro z; (try clear c1_1_1); have c1_1_1 := z; clear z)))))))); (try (have _ : w2.heap.size < w3.heap.size := (by omega); (try (apply fk hb3 (w2.heap.size); (focus (go_simp; rfl)); (focus (intro o; go_simp)); intro z; (try clear f2_0); have f2_0 := z; clear z)); (try (apply ck hb3 (w2.heap.size) 0; (focus (go_simp; rfl)); intro z; (try clear c2_0_0); have c2_0_0 := z; clear z; (try (apply ck hb3 (w2.heap.size) 1; (focus (go_simp; rfl)); intro z; (try clear c2_0_1); have c2_0_1 := z; clear z)))); (try (have _ : w2.heap.size + 1 < w3.heap.size := (by omega); (try (apply fk hb3 (w2.heap.size + 1); (focus (go_simp; rfl)); (focus (intro o; go_simp)); intro z; (try clear f2_1); have f2_1 := z; clear z)); (try (apply ck hb3 (w2.heap.size + 1) 0; (focus (go_simp; rfl)); intro z; (try clear c2_1_0); have c2_1_0 := z; clear z; (try (apply ck hb3 (w2.heap.size + 1) 1; (focus (go_simp; rfl)); intro z; (try clear c2_1_1); have c2_1_1 := z; clear z)))))))); clear hle; (try (apply old_keep (w0 := w) (w := w3); (focus ((repeat (first | (with_reducible exact Up.refl _) | (with_reducible assumption) | (with_reducible refine Up.alloc ?_ _) | (with_reducible refine Up.drew ?_) | ((with_reducible refine Up.set ?_ ?_ _); rotate_left; focus (first | omega | (simp; done) | (simp; omega))) | (with_reducible refine Up.drewN ?_ _) | (with_reducible refine Up.call ?_ (by with_reducible assumption)))))); intro y z; (try clear hUp); (try clear hOld); have hUp := y; have hOld := z; clear y z)))))
    all_goals
      go_ret2
      first
        | (refine RetR.mk (.error n1) ?_ ?_ (rel := slE) rfl; rotate_left; (focus (simp only [spiecesF, hx1])))
        | (refine RetR.mk (.ok x3) ?_ ?_ (rel := slE) ⟨A3, c3, rfl, Hrd3.out, hc3⟩; rotate_left; (focus (simp only [spiecesF, hx1]; rw [if_neg (by have := H3.out; have := H4.out; omega), ← hx3]; simp)))
      (repeat (first | (with_reducible exact Up.refl _) | (with_reducible assumption) | (with_reducible refine Up.alloc ?_ _) | (with_reducible refine Up.drew ?_) | ((with_reducible refine Up.set ?_ ?_ _); rotate_left; focus (first | omega | (simp; done) | (simp; omega))) | (with_reducible refine Up.drewN ?_ _) | (with_reducible refine Up.call ?_ (by with_reducible assumption))))
  · have Hm := hid hm
    have Hd := hid (show decide (1 ≤ many ∧ many ≤ 32) = false by rw [decide_eq_false]; omega)
    clear hm
    go_enter Tryd.func77, Tryd.ntmps77
    go_wp2_with (first
      | ((go_at_call 26; (with_reducible refine (check_any _ _ _).mono ?_); rintro e w1 ⟨(_|n1), hx1, rfl, hb1⟩) <;> (have hle := Up.le hb1; (try simp only [World.size_alloc, World.size_setCell, World.size_drew, World.heap_drewN] at hle); (try (have _ : w.heap.size < w1.heap.size := (by omega); (try (apply fk hb1 (w.heap.size); (focus (go_simp; rfl)); (focus (intro o; go_simp)); intro z; (try clear f_0); have f_0 := z; clear z)); (try (apply ck hb1 (w.heap.size) 0; (focus (go_simp; rfl)); intro z; (try clear c_0_0); have c_0_0 := z; clear z; (try (apply ck hb1 (w.heap.size) 1; (focus (go_simp; rfl)); intro z; (try clear c_0_1); have c_0_1 := z; clear z)))); (try (have _ : w.heap.size + 1 < w1.heap.size := (by omega); (try (apply fk hb1 (w.heap.size + 1); (focus (go_simp; rfl)); (focus (intro o; go_simp)); intro z; (try clear f_1); have f_1 := z; clear z)); (try (apply ck hb1 (w.heap.size + 1) 0; (focus (go_simp; rfl)); intro z; (try clear c_1_0); have c_1_0 := z; clear z; (try (apply ck hb1 (w.heap.size + 1) 1; (focus (go_simp; rfl)); intro z; (try clear c_1_1); have c_1_1 := z; clear z)))); (try (have _ : w.heap.size + 1 + 1 < w1.heap.size := (by omega); (try (apply fk hb1 (w.heap.size + 1 + 1); (focus (go_simp; rfl)); (focus (intro o; go_simp)); intro z; (try clear f_2); have f_2 := z; clear z)); (try (apply ck hb1 (w.heap.size + 1 + 1) 0; (focus (go_simp; rfl)); intro z; (try clear c_2_0); have c_2_0 := z; clear z; (try (apply ck hb1 (w.heap.size + 1 + 1) 1; (focus (go_simp; rfl)); intro z; (try clear c_2_1); have c_2_1 := z; clear z)))); (try (have _ : w.heap.size + 1 + 1 + 1 < w1.heap.size := (by omega); (try (apply fk hb1 (w.heap.size + 1 + 1 + 1); (focus (go_simp; rfl)); (focus (intro o; go_simp)); intro z; (try clear f_3); have f_3 := z; clear z)); (try (apply ck hb1 (w.heap.size + 1 + 1 + 1) 0; (focus (go_simp; rfl)); intro z; (try clear c_3_0); have c_3_0 := z; clear z; (try (apply ck hb1 (w.heap.size + 1 + 1 + 1) 1; (focus (go_simp; rfl)); intro z; (try clear c_3_1); have c_3_1 := z; clear z)))); (try (have _ : w.heap.size + 1 + 1 + 1 + 1 < w1.heap.size := (by omega); (try (apply fk hb1 (w.heap.size + 1 + 1 + 1 + 1); (focus (go_simp; rfl)); (focus (intro o; go_simp)); intro z; (try clear f_4); have f_4 := z; clear z)); (try (apply ck hb1 (w.heap.size + 1 + 1 + 1 + 1) 0; (focus (go_simp; rfl)); intro z; (try clear c_4_0); have c_4_0 := z; clear z; (try (apply ck hb1 (w.heap.size + 1 + 1 + 1 + 1) 1; (focus (go_simp; rfl)); intro z; (try clear c_4_1); have c_4_1 := z; clear z)))))))))))))); clear hle; (try (apply old_keep (w0 := w) (w := w1); (focus ((repeat (first | (with_reducible exact Up.refl _) | (with_reducible assumption) | (with_reducible refine Up.alloc ?_ _) | (with_reducible refine Up.drew ?_) | ((with_reducible refine Up.set ?_ ?_ _); rotate_left; focus (first | omega | (simp; done) | (simp; omega))) | (with_reducible refine Up.drewN ?_ _) | (with_reducible refine Up.call ?_ (by with_reducible assumption)))))); intro y z; (try clear hUp); (try clear hOld); have hUp := y; have hOld := z; clear y z))))
      | ((go_at_call 106; (with_reducible refine (scheck_any _ _).mono ?_); rintro e w2 ⟨x2, hx2, rfl, hb2⟩ <;> (rw [Hd.out] at hx2; subst hx2)) <;> (have hle := Up.le hb2; (try simp only [World.size_alloc, World.size_setCell, World.size_drew, World.heap_drewN] at hle); (try (have _ : w.heap.size < w2.heap.size := (by omega); (try (apply fk hb2 (w.heap.size); (focus (go_simp; rfl)); (focus (intro o; go_simp)); intro z; (try clear f_0); have f_0 := z; clear z)); (try (apply ck hb2 (w.heap.size) 0; (focus (go_simp; rfl)); intro z; (try clear c_0_0); have c_0_0 := z; clear z; (try (apply ck hb2 (w.heap.size) 1; (focus (go_simp; rfl)); intro z; (try clear c_0_1); have c_0_1 := z; clear z)))); (try (have _ : w.heap.size + 1 < w2.heap.size := (by omega); (try (apply fk hb2 (w.heap.size + 1); (focus (go_simp; rfl)); (focus (intro o; go_simp)); intro z; (try clear f_1); have f_1 := z; clear z)); (try (apply ck hb2 (w.heap.size + 1) 0; (focus (go_simp; rfl)); intro z; (try clear c_1_0); have c_1_0 := z; clear z; (try (apply ck hb2 (w.heap.size + 1) 1; (focus (go_simp; rfl)); intro z; (try clear c_1_1); have c_1_1 := z; clear z)))); (try (have _ : w.heap.size + 1 + 1 < w2.heap.size := (by omega); (try (apply fk hb2 (w.heap.size + 1 + 1); (focus (go_simp; rfl)); (focus (intro o; go_simp)); intro z; (try clear f_2); have f_2 := z; clear z)); (try (apply ck hb2 (w.heap.size + 1 + 1) 0; (focus (go_simp; rfl)); intro z; (try clear c_2_0); have c_2_0 := z; clear z; (try (apply ck hb2 (w.heap.size + 1 + 1) 1; (focus (go_simp; rfl)); intro z; (try clear c_2_1); have c_2_1 := z; clear z)))); (try (have _ : w.heap.size + 1 + 1 + 1 < w2.heap.size := (by omega); (try (apply fk hb2 (w.heap.size + 1 + 1 + 1); (focus (go_simp; rfl)); (focus (intro o; go_simp)); intro z; (try clear f_3); have f_3 := z; clear z)); (try (apply ck hb2 (w.heap.size + 1 + 1 + 1) 0; (focus (go_simp; rfl)); intro z; (try clear c_3_0); have c_3_0 := z; clear z; (try (apply ck hb2 (w.heap.size + 1 + 1 + 1) 1; (focus (go_simp; rfl)); intro z; (try clear c_3_1); have c_3_1 := z; clear z)))); (try (have _ : w.heap.size + 1 + 1 + 1 + 1 < w2.heap.size := (by omega); (try (apply fk hb2 (w.heap.size + 1 + 1 + 1 + 1); (focus (go_simp; rfl)); (focus (intro o; go_simp)); intro z; (try clear f_4); have f_4 := z; clear z)); (try (apply ck hb2 (w.heap.size + 1 + 1 + 1 + 1) 0; (focus (go_simp; rfl)); intro z; (try clear c_4_0); have c_4_0 := z; clear z; (try (apply ck hb2 (w.heap.size + 1 + 1 + 1 + 1) 1; (focus (go_simp; rfl)); intro z; (try clear c_4_1); have c_4_1 := z; clear z)))))))))))))); (try (have _ : w1.heap.size < w2.heap.size := (by omega); (try (apply fk hb2 (w1.heap.size); (focus (go_simp; rfl)); (focus (intro o; go_simp)); intro z; (try clear f1_0); have f1_0 := z; clear z)); (try (apply ck hb2 (w1.heap.size) 0; (focus (go_simp; rfl)); intro z; (try clear c1_0_0); have c1_0_0 := z; clear z; (try (apply ck hb2 (w1.heap.size) 1; (focus (go_simp; rfl)); intro z; (try clear c1_0_1); have c1_0_1 := z; clear z)))); (try (have _ : w1.heap.size + 1 < w2.heap.size := (by omega); (try (apply fk hb2 (w1.heap.size + 1); (focus (go_simp; rfl)); (focus (intro o; go_simp)); intro z; (try clear f1_1); have f1_1 := z; clear z)); (try (apply ck hb2 (w1.heap.size + 1) 0; (focus (go_simp; rfl)); intro z; (try clear c1_1_0); have c1_1_0 := z; clear z; (try (apply ck hb2 (w1.heap.size + 1) 1; (focus (go_simp; rfl)); intro z; (try clear c1_1_1); have c1_1_1 := z; clear z)))))))); clear hle; (try (apply old_keep (w0 := w) (w := w2); (focus ((repeat (first | (with_reducible exact Up.refl _) | (with_reducible assumption) | (with_reducible refine Up.alloc ?_ _) | (with_reducible refine Up.drew ?_) | ((with_reducible refine Up.set ?_ ?_ _); rotate_left; focus (first | omega | (simp; done) | (simp; omega))) | (with_reducible refine Up.drewN ?_ _) | (with_reducible refine Up.call ?_ (by with_reducible assumption)))))); intro y z; (try clear hUp); (try clear hOld); have hUp := y; have hOld := z; clear y z)))))
    all_goals
      go_ret2
      first
        | (refine RetR.mk (.error n1) ?_ ?_ (rel := slE) rfl; rotate_left; (focus (simp only [spiecesF, hx1])))
        | (refine RetR.mk (.error 1) ?_ ?_ (rel := slE) rfl; rotate_left; (focus (simp only [spiecesF, hx1]; rw [if_pos (by have := Hm.out; omega)])))
      (repeat (first | (with_reducible exact Up.refl _) | (with_reducible assumption) | (with_reducible refine Up.alloc ?_ _) | (with_reducible refine Up.drew ?_) | ((with_reducible refine Up.set ?_ ?_ _); rotate_left; focus (first | omega | (simp; done) | (simp; omega))) | (with_reducible refine Up.drewN ?_ _) | (with_reducible refine Up.call ?_ (by with_reducible assumption))))
end Go.Proofs.YtafhcppigpjcpaaDoor
