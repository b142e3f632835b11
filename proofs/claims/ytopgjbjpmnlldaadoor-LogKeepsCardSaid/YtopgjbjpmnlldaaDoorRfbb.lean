/- The walks of the reference's boxes that make new ones: HullBox, MeetBox, Halve. -/
import Derived.Test.YtopgjbjpmnlldaaDoorRfb
import Derived.Test.YtopgjbjpmnlldaaDoorRfp
import Derived.Test.YtopgjbjpmnlldaaDoorOwnk
import Derived.Deep.RegionWith
import Derived.Maps.AppendAt

set_option linter.unusedVariables false
set_option linter.unusedSimpArgs false
namespace Go.Proofs.YtopgjbjpmnlldaaDoor
open Go.RowKit

/-- A slice of spans with the number of a fault. -/
def slNm (w : World) : Except Nat (List Sp) → Value → Prop
  | .ok l, v => ∃ A c, v = .tuple #[.slice A l.length c, .int .i64 0] ∧ RdS w A l ∧ l.length ≤ c
  | .error n, v => v = .tuple #[.slice none 0 0, .int .i64 n]
theorem slNm_ok {w : World} {l : List Sp} {v : Value} (h : slNm w (.ok l) v) : ∃ A c, v = .tuple #[.slice A l.length c, .int .i64 0] ∧ RdS w A l ∧ l.length ≤ c := h
theorem slNm_error {w : World} {n : Nat} {v : Value} (h : slNm w (.error n) v) : v = .tuple #[.slice none 0 0, .int .i64 n] := h
set_option maxRecDepth 100000 in
set_option maxHeartbeats 2000000 in
theorem rhullbox_any (A B : Option Addr) (a b : List Sp) (c d : Nat) (w : World) (ha : RdS w A a) (hb : RdS w B b) (hl : a.length = b.length) (hm : a.length ≤ 1000) :
    Calls Tryd.prog 24 #[.slice A a.length c, .slice B b.length d] w (RetR (ownR w.heap.size) (bbothF a b) w) := by
  obtain ⟨i0, hi0, hz0, hz1, hz2⟩ := info_parts Tryd.infoSpan
  have Ha := hid ha; have Hb := hid hb; have Hl := hid hl; clear ha hb
  have hl1 : a.length ≤ b.length := by omega
  have hl2 : b.length ≤ a.length := by omega
  clear hl
  go_enter Tryd.func24, Tryd.ntmps24
  go_wp2
  go_loopw [5, 6] (fun v i wr => ∃ (k : Nat) (L : List Sp), k ≤ a.length ∧ i = .int .i64 k ∧ Hid (L = bbothF (a.take k) (b.take k)) ∧ Hid (L.length = k) ∧ OwnS wr w.heap.size v L ∧ Up w wr) (fun _ i _ => a.length - (intOf i).toNat)
  case atStart => exact ⟨0, [], by omega, rfl, by show _ = _; simp [bbothF], rfl, OwnS.nil _ _, Up.refl _⟩
  case round =>
    obtain ⟨k, L, hk, rfl, H, HL, hown, hU⟩ := hrel
    have gr := (bcell hU).1
    by_cases hlt : k < a.length
    · obtain ⟨b1, o1, rfl, l1, c1⟩ := (Ha.out).at (by omega)
      obtain ⟨b2, o2, rfl, l2, c2⟩ := (Hb.out).at (by omega)
      obtain ⟨k1, k2⟩ := c1 k hlt
      obtain ⟨k3, k4⟩ := c2 k (by omega)
      have Hst := hid (bbothF_take Hl.out hlt)
      have HL4 := hid (show L.length ≤ 1000 by have := HL.out; omega)
      generalize a[k]?.getD ⟨0, 0⟩ = s at *
      generalize b[k]?.getD ⟨0, 0⟩ = t at *
      clear c1 c2
      have hle := hU.le
      have _ : b1 < wr.heap.size := by omega
      have _ : b2 < wr.heap.size := by omega
      have hdk : decide ((k : Int) < (a.length : Int)) = true := by simp; omega
      have hka : ((k : Int) < (a.length : Int)) := by omega
      have hkb : ((k : Int) < (b.length : Int)) := by omega
      have hk0 : (0 : Int) ≤ (k : Int) := by omega
      have Hown := hid hown; clear hown
      go_upto_region 5 with fail
      go_cut [7] (fun s7 wx => ∃ (g : Nat) (x : Sp), s7 = .pointer (some ⟨g, 0, none⟩) ∧ g < wx.heap.size ∧ wx.cell? ⟨g, 0, none⟩ = some (.int .i64 x.lo) ∧ wx.cell? ⟨g, 1, none⟩ = some (.int .i64 x.hi) ∧ Hid (bothF s t = x) ∧ Hid (OwnS wx w.heap.size u5 L) ∧ Up w wx)
      case first =>
        go_region_law (go_simp; ((go_at_call 47; (with_reducible refine (rhull_any _ _ _ _ _).mono ?_); rintro e w1 ⟨x1, hx1, rfl, hb1⟩ <;> (have Hx1 := hid hx1; clear hx1; have hu1 : Up wr w1 := (by (repeat (first | (with_reducible exact Up.refl _) | (with_reducible assumption) | (with_reducible refine Up.alloc ?_ _) | (with_reducible refine Up.drew ?_) | ((with_reducible refine Up.set ?_ ?_ _); rotate_left; focus (first | omega | (simp; done) | (simp; omega))) | (with_reducible refine Up.drewN ?_ _) | (with_reducible refine Up.call ?_ (by with_reducible assumption))))); have Hown1 := hid (Hown.out.up hu1); clear hu1)) <;> (have hle := Up.le hb1; (try simp only [World.size_alloc, World.size_setCell, World.size_drew, World.heap_drewN] at hle); (try (have _ : w.heap.size < w1.heap.size := (by omega); (try (apply fk hb1 (w.heap.size); (focus (go_simp; rfl)); (focus (intro o; go_simp)); intro z; (try clear f_0); have f_0 := z; clear z)); (try (apply ck hb1 (w.heap.size) 0; (focus (go_simp; rfl)); intro z; (try clear c_0_0); have c_0_0 := z; clear z; (try (apply ck hb1 (w.heap.size) 1; (focus (go_simp; rfl)); intro z; (try clear c_0_1); have c_0_1 := z; clear z)))))); (try (have _ : wr.heap.size < w1.heap.size := (by omega); (try (apply fk hb1 (wr.heap.size); (focus (go_simp; rfl)); (focus (intro o; go_simp)); intro z; (try clear fr_0); have fr_0 := z; clear z)); (try (apply ck hb1 (wr.heap.size) 0; (focus (go_simp; rfl)); intro z; (try clear cr_0_0); have cr_0_0 := z; clear z; (try (apply ck hb1 (wr.heap.size) 1; (focus (go_simp; rfl)); intro z; (try clear cr_0_1); have cr_0_1 := z; clear z)))))); clear hle; (try (apply old_keep (w0 := w) (w := w1); (focus ((repeat (first | (with_reducible exact Up.refl _) | (with_reducible assumption) | (with_reducible refine Up.alloc ?_ _) | (with_reducible refine Up.drew ?_) | ((with_reducible refine Up.set ?_ ?_ _); rotate_left; focus (first | omega | (simp; done) | (simp; omega))) | (with_reducible refine Up.drewN ?_ _) | (with_reducible refine Up.call ?_ (by with_reducible assumption)))))); intro y z; (try clear hUp); (try clear hOld); have hUp := y; have hOld := z; clear y z)))))
        all_goals
          go_wp2_with fail
          go_meet
          refine ⟨_, x1, rfl, ?_, ?_, ?_, Hx1.out, ?_, ?_⟩
          · first | (simp; done) | (simp; omega) | omega
          · first | (go_simp; done) | (go_simp; rfl)
          · first | (go_simp; done) | (go_simp; rfl)
          · show OwnS _ _ _ _
            have hn : ∀ o : Nat, u5.ownBlock ≠ some (⟨wr.heap.size, o, none⟩ : Addr).block := fun o e => by have := (Hown.out.lt _ e).2; simp at this
            first | exact (Hown1.out.set (hn _) _).set (hn _) _ | exact Hown1.out.up (by (repeat (first | (with_reducible exact Up.refl _) | (with_reducible assumption) | (with_reducible refine Up.alloc ?_ _) | (with_reducible refine Up.drew ?_) | ((with_reducible refine Up.set ?_ ?_ _); rotate_left; focus (first | omega | (simp; done) | (simp; omega))) | (with_reducible refine Up.drewN ?_ _) | (with_reducible refine Up.call ?_ (by with_reducible assumption)))))
          · (repeat (first | (with_reducible exact Up.refl _) | (with_reducible assumption) | (with_reducible refine Up.alloc ?_ _) | (with_reducible refine Up.drew ?_) | ((with_reducible refine Up.set ?_ ?_ _); rotate_left; focus (first | omega | (simp; done) | (simp; omega))) | (with_reducible refine Up.drewN ?_ _) | (with_reducible refine Up.call ?_ (by with_reducible assumption))))
      case rest =>
        obtain ⟨g, x, rfl, lg, cg0, cg1, Hx1, Hown1, HU1⟩ := hcut
        have hle1 := HU1.le
        have HU := hid HU1; clear HU1
        go_wp2_with (at_builtin; refine wpList_append_own_at _ rfl (.tmp 23) (.tmp 25) _ rfl w.heap.size 23 i0 (.agg #[.int .i64 0, .int .i64 0]) 2 16 Tryd.underlying35 hi0 hz0 hz1 hz2 rfl (by decide) _ _ _ rfl (Hown1.out.up ((Up.refl wc).alloc _)) ⟨wc.heap.size, 0, none⟩ 1 1 [.int .i64 x.lo, .int .i64 x.hi] rfl rfl (cell_two_new _ _ _ _) (by simp [Value.oneCell']) (by have := HL4.out; unfold maxLen; omega) (by have := HL4.out; omega) (by simp; omega) ?_; intro v8 w2 own8 g8 _ at8)
        go_roundw
        case rel =>
          refine ⟨k + 1, L ++ [x], by omega, by go_num, ?_, ?_, OwnS.snoc own8, OwnS.grown (HU.out.alloc _) (Hown1.out.up ((Up.refl wc).alloc _)) g8⟩
          · show _ = _
            rw [Hst.out, ← H.out, ← Hx1.out]
          · show _ = _
            have := HL.out; simp; omega
        case measure => simp [intOf]; omega
    · obtain rfl : k = a.length := by omega
      have Hown := hid hown; clear hown
      go_wp2
      go_ret
      refine RetR.mk L hU ?_ (rel := ownR w.heap.size) Hown.out
      rw [H.out, List.take_length, Hl.out, List.take_length]
end Go.Proofs.YtopgjbjpmnlldaaDoor
