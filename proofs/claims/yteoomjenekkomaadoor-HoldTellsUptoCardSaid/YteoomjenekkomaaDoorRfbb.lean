/- The walks of the reference's boxes that make new ones: HullBox, MeetBox, Halve. -/
import Derived.Test.YteoomjenekkomaaDoorRfb
import Derived.Test.YteoomjenekkomaaDoorRfp
import Derived.Test.YteoomjenekkomaaDoorStepb
import Derived.Deep.RegionWith
import Derived.Maps.AppendAt

set_option linter.unusedVariables false
set_option linter.unusedSimpArgs false
namespace Go.Proofs.YteoomjenekkomaaDoor
open Go.RowKit

/-- A slice of spans with the number of a fault. -/
def slNm (w : World) : Except Nat (List Sp) → Value → Prop
  | .ok l, v => ∃ A c, v = .tuple #[.slice A l.length c, .int .i64 0] ∧ RdS w A l ∧ l.length ≤ c
  | .error n, v => v = .tuple #[.slice none 0 0, .int .i64 n]
theorem slNm_ok {w : World} {l : List Sp} {v : Value} (h : slNm w (.ok l) v) : ∃ A c, v = .tuple #[.slice A l.length c, .int .i64 0] ∧ RdS w A l ∧ l.length ≤ c := h
theorem slNm_error {w : World} {n : Nat} {v : Value} (h : slNm w (.error n) v) : v = .tuple #[.slice none 0 0, .int .i64 n] := h
set_option maxRecDepth 100000 in
set_option maxHeartbeats 2000000 in
theorem rhullbox_any (A B : Option Addr) (a b : List Sp) (c d : Nat) (w : World) (ha : RdS w A a) (hb : RdS w B b) (hl : a.length = b.length) (hm : a.length ≤ 1000) :
    Calls Tryd.prog 21 #[.slice A a.length c, .slice B b.length d] w (RetR (ownR w.heap.size) (bbothF a b) w) := by
  obtain ⟨i0, hi0, hz0, hz1, hz2⟩ := info_parts Tryd.infoSpan
  have Ha := hid ha; have Hb := hid hb; have Hl := hid hl; clear ha hb
  have hl1 : a.length ≤ b.length := by omega
  have hl2 : b.length ≤ a.length := by omega
  clear hl
  go_enter Tryd.func21, Tryd.ntmps21
  go_wp2
  go_loopw [5, 6] (fun v i wr => ∃ (k : Nat) (L : List Sp), k ≤ a.length ∧ i = .int .i64 k ∧ Hid (L = bbothF (a.take k) (b.take k)) ∧ Hid (L.length = k) ∧ OwnS wr w.heap.size v L ∧ Up w wr) (fun _ i _ => a.length - (intOf i).toNat)
  case atStart => exact ⟨0, [], by omega, rfl, by show _ = _; simp [bbothF], rfl, OwnS.nil _ _, Up.refl _⟩
  case round =>
    obtain ⟨k, L, hk, rfl, H, HL, hown, hU⟩ := hrel
    have gr := (bcell hU).1
    by_cases hlt : k < a.length
    · obtain ⟨b1, o1, rfl, l1, c1⟩ := (Ha.out).at (by omega)
      obtain ⟨b2, o2, rfl, l2, c2⟩ := (Hb.out).at (by omega)
      obtain ⟨k1, k2⟩ := c1 k hlt
      obtain ⟨k3, k4⟩ := c2 k (by omega)
      have Hst := hid (bbothF_take Hl.out hlt)
      have HL4 := hid (show L.length ≤ 1000 by have := HL.out; omega)
      generalize a[k]?.getD ⟨0, 0⟩ = s at *
      generalize b[k]?.getD ⟨0, 0⟩ = t at *
      clear c1 c2
      have hle := hU.le
      have _ : b1 < wr.heap.size := by omega
      have _ : b2 < wr.heap.size := by omega
      have hdk : decide ((k : Int) < (a.length : Int)) = true := by simp; omega
      have hka : ((k : Int) < (a.length : Int)) := by omega
      have hkb : ((k : Int) < (b.length : Int)) := by omega
      have hk0 : (0 : Int) ≤ (k : Int) := by omega
      have Hown := hid hown; clear hown
      go_upto_region 5 with fail
      go_cut [7] (fun s7 wx => ∃ (g : Nat) (x : Sp), s7 = .pointer (some ⟨g, 0, none⟩) ∧ g < wx.heap.size ∧ wx.cell? ⟨g, 0, none⟩ = some (.int .i64 x.lo) ∧ wx.cell? ⟨g, 1, none⟩ = some (.int .i64 x.hi) ∧ Hid (bothF s t = x) ∧ Hid (OwnS wx w.heap.size u5 L) ∧ Up w wx)
      case first =>
        go_region_law (go_simp; ((go_at_call 72; (with_reducible refine (rhull_any _ _ _ _ _).mono ?_); rintro e w1 ⟨x1, hx1, rfl, hb1⟩ <;> (have Hx1 := hid hx1; clear hx1; have hu1 : Up wr w1 := (by (repeat (first | (with_reducible exact Up.refl _) | (with_reducible assumption) | (with_reducible refine Up.alloc ?_ _) | (with_reducible refine Up.drew ?_) | ((with_reducible refine Up.set ?_ ?_ _); rotate_left; focus (first | omega | (simp; done) | (simp; omega))) | (with_reducible refine Up.drewN ?_ _) | (with_reducible refine Up.call ?_ (by with_reducible assumption))))); have Hown1 := hid (Hown.out.up hu1); clear hu1)) <;> (have hle := Up.le hb1; (try simp only [World.size_alloc, World.size_setCell, World.size_drew, World.heap_drewN] at hle); (try (have _ : w.heap.size < w1.heap.size := (by omega); (try (apply fk hb1 (w.heap.size); (focus (go_simp; rfl)); (focus (intro o; go_simp)); intro z; (try clear f_0); have f_0 := z; clear z)); (try (apply ck hb1 (w.heap.size) 0; (focus (go_simp; rfl)); intro z; (try clear c_0_0); have c_0_0 := z; clear z; (try (apply ck hb1 (w.heap.size) 1; (focus (go_simp; rfl)); intro z; (try clear c_0_1); have c_0_1 := z; clear z)))))); (try (have _ : wr.heap.size < w1.heap.size := (by omega); (try (apply fk hb1 (wr.heap.size); (focus (go_simp; rfl)); (focus (intro o; go_simp)); intro z; (try clear fr_0); have fr_0 := z; clear z)); (try (apply ck hb1 (wr.heap.size) 0; (focus (go_simp; rfl)); intro z; (try clear cr_0_0); have cr_0_0 := z; clear z; (try (apply ck hb1 (wr.heap.size) 1; (focus (go_simp; rfl)); intro z; (try clear cr_0_1); have cr_0_1 := z; clear z)))))); clear hle; (try (apply old_keep (w0 := w) (w := w1); (focus ((repeat (first | (with_reducible exact Up.refl _) | (with_reducible assumption) | (with_reducible refine Up.alloc ?_ _) | (with_reducible refine Up.drew ?_) | ((with_reducible refine Up.set ?_ ?_ _); rotate_left; focus (first | omega | (simp; done) | (simp; omega))) | (with_reducible refine Up.drewN ?_ _) | (with_reducible refine Up.call ?_ (by with_reducible assumption)))))); intro y z; (try clear hUp); (try clear hOld); have hUp := y; have hOld := z; clear y z)))))
        all_goals
          go_wp2_with fail
          go_meet
          refine ⟨_, x1, rfl, ?_, ?_, ?_, Hx1.out, ?_, ?_⟩
          · first | (simp; done) | (simp; omega) | omega
          · first | (go_simp; done) | (go_simp; rfl)
          · first | (go_simp; done) | (go_simp; rfl)
          · show OwnS _ _ _ _
            have hn : ∀ o : Nat, u5.ownBlock ≠ some (⟨wr.heap.size, o, none⟩ : Addr).block := fun o e => by have := (Hown.out.lt _ e).2; simp at this
            first | exact (Hown1.out.set (hn _) _).set (hn _) _ | exact Hown1.out.up (by (repeat (first | (with_reducible exact Up.refl _) | (with_reducible assumption) | (with_reducible refine Up.alloc ?_ _) | (with_reducible refine Up.drew ?_) | ((with_reducible refine Up.set ?_ ?_ _); rotate_left; focus (first | omega | (simp; done) | (simp; omega))) | (with_reducible refine Up.drewN ?_ _) | (with_reducible refine Up.call ?_ (by with_reducible assumption)))))
          · (repeat (first | (with_reducible exact Up.refl _) | (with_reducible assumption) | (with_reducible refine Up.alloc ?_ _) | (with_reducible refine Up.drew ?_) | ((with_reducible refine Up.set ?_ ?_ _); rotate_left; focus (first | omega | (simp; done) | (simp; omega))) | (with_reducible refine Up.drewN ?_ _) | (with_reducible refine Up.call ?_ (by with_reducible assumption))))
      case rest =>
        obtain ⟨g, x, rfl, lg, cg0, cg1, Hx1, Hown1, HU1⟩ := hcut
        have hle1 := HU1.le
        have HU := hid HU1; clear HU1
        go_wp2_with (at_builtin; refine wpList_append_own_at _ rfl (.tmp 23) (.tmp 25) _ rfl w.heap.size 56 i0 (.agg #[.int .i64 0, .int .i64 0]) 2 16 Tryd.underlying23 hi0 hz0 hz1 hz2 rfl (by decide) _ _ _ rfl (Hown1.out.up ((Up.refl wc).alloc _)) ⟨wc.heap.size, 0, none⟩ 1 1 [.int .i64 x.lo, .int .i64 x.hi] rfl rfl (cell_two_new _ _ _ _) (by simp [Value.oneCell']) (by have := HL4.out; unfold maxLen; omega) (by have := HL4.out; omega) (by simp; omega) ?_; intro v8 w2 own8 g8 _ at8)
        go_roundw
        case rel =>
          refine ⟨k + 1, L ++ [x], by omega, by go_num, ?_, ?_, OwnS.snoc own8, OwnS.grown (HU.out.alloc _) (Hown1.out.up ((Up.refl wc).alloc _)) g8⟩
          · show _ = _
            rw [Hst.out, ← H.out, ← Hx1.out]
          · show _ = _
            have := HL.out; simp; omega
        case measure => simp [intOf]; omega
    · obtain rfl : k = a.length := by omega
      have Hown := hid hown; clear hown
      go_wp2
      go_ret
      refine RetR.mk L hU ?_ (rel := ownR w.heap.size) Hown.out
      rw [H.out, List.take_length, Hl.out, List.take_length]
set_option maxRecDepth 100000 in
set_option maxHeartbeats 2000000 in
theorem rmeetbox_any (A B : Option Addr) (a b : List Sp) (c d : Nat) (w : World) (ha : RdS w A a) (hb : RdS w B b) (hl : a.length = b.length) (hm : a.length ≤ 1000) :
    Calls Tryd.prog 35 #[.slice A a.length c, .slice B b.length d] w (RetR slNm (bcomF a b) w) := by
  obtain ⟨i0, hi0, hz0, hz1, hz2⟩ := info_parts Tryd.infoSpan
  have Ha := hid ha; have Hb := hid hb; have Hl := hid hl; clear ha hb
  have hl1 : a.length ≤ b.length := by omega
  have hl2 : b.length ≤ a.length := by omega
  rw [← preS_nil (bcomF a b)]
  clear hl
  go_enter Tryd.func35, Tryd.ntmps35
  go_wp2
  go_loopw [6, 7] (fun v i wr => ∃ (k : Nat) (L : List Sp), k ≤ a.length ∧ i = .int .i64 k ∧ Hid (preS [] (bcomF a b) = preS L (bcomF (a.drop k) (b.drop k))) ∧ Hid (L.length = k) ∧ OwnS wr w.heap.size v L ∧ Up w wr) (fun _ i _ => a.length - (intOf i).toNat)
  case atStart => exact ⟨0, [], by omega, rfl, rfl, rfl, OwnS.nil _ _, Up.refl _⟩
  case round =>
    obtain ⟨k, L, hk, rfl, H, HL, hown, hU⟩ := hrel
    have gr := (bcell hU).1
    by_cases hlt : k < a.length
    · obtain ⟨b1, o1, rfl, l1, c1⟩ := (Ha.out).at (by omega)
      obtain ⟨b2, o2, rfl, l2, c2⟩ := (Hb.out).at (by omega)
      obtain ⟨k1, k2⟩ := c1 k hlt
      obtain ⟨k3, k4⟩ := c2 k (by omega)
      have Hda := hid (sdrop a k hlt)
      have Hdb := hid (sdrop b k (by omega))
      have HL4 := hid (show L.length ≤ 1000 by have := HL.out; omega)
      generalize a[k]?.getD ⟨0, 0⟩ = s at *
      generalize b[k]?.getD ⟨0, 0⟩ = t at *
      clear c1 c2
      have hle := hU.le
      have _ : b1 < wr.heap.size := by omega
      have _ : b2 < wr.heap.size := by omega
      have hdk : decide ((k : Int) < (a.length : Int)) = true := by simp; omega
      have hka : ((k : Int) < (a.length : Int)) := by omega
      have hkb : ((k : Int) < (b.length : Int)) := by omega
      have hk0 : (0 : Int) ≤ (k : Int) := by omega
      have Hown := hid hown; clear hown
      cases hcm : comF s t with
      | error n =>
        have q : ((n : Int) != 0) = true := bne_iff_ne.2 (by have := com_err hcm; omega)
        have Hcm := hid hcm; clear hcm
        go_wp2_with fail
        go_region_law (go_simp; ((go_at_call 87; (with_reducible refine (rmeet_any _ _ _ _ _).mono ?_); rintro e w1 ⟨x1, hx1, rfl, hb1⟩ <;> (rw [Hcm.out] at hx1; subst hx1)) <;> (have hle := Up.le hb1; (try simp only [World.size_alloc, World.size_setCell, World.size_drew, World.heap_drewN] at hle); (try (have _ : w.heap.size < w1.heap.size := (by omega); (try (apply fk hb1 (w.heap.size); (focus (go_simp; rfl)); (focus (intro o; go_simp)); intro z; (try clear f_0); have f_0 := z; clear z)); (try (apply ck hb1 (w.heap.size) 0; (focus (go_simp; rfl)); intro z; (try clear c_0_0); have c_0_0 := z; clear z; (try (apply ck hb1 (w.heap.size) 1; (focus (go_simp; rfl)); intro z; (try clear c_0_1); have c_0_1 := z; clear z)))))); (try (have _ : wr.heap.size < w1.heap.size := (by omega); (try (apply fk hb1 (wr.heap.size); (focus (go_simp; rfl)); (focus (intro o; go_simp)); intro z; (try clear fr_0); have fr_0 := z; clear z)); (try (apply ck hb1 (wr.heap.size) 0; (focus (go_simp; rfl)); intro z; (try clear cr_0_0); have cr_0_0 := z; clear z; (try (apply ck hb1 (wr.heap.size) 1; (focus (go_simp; rfl)); intro z; (try clear cr_0_1); have cr_0_1 := z; clear z)))))); clear hle; (try (apply old_keep (w0 := w) (w := w1); (focus ((repeat (first | (with_reducible exact Up.refl _) | (with_reducible assumption) | (with_reducible refine Up.alloc ?_ _) | (with_reducible refine Up.drew ?_) | ((with_reducible refine Up.set ?_ ?_ _); rotate_left; focus (first | omega | (simp; done) | (simp; omega))) | (with_reducible refine Up.drewN ?_ _) | (with_reducible refine Up.call ?_ (by with_reducible assumption)))))); intro y z; (try clear hUp); (try clear hOld); have hUp := y; have hOld := z; clear y z)))))
        all_goals go_wp2
        all_goals
          go_ret2
          refine RetR.mk (.error n) ?_ ?_ (rel := slNm) rfl
          · (repeat (first | (with_reducible exact Up.refl _) | (with_reducible assumption) | (with_reducible refine Up.alloc ?_ _) | (with_reducible refine Up.drew ?_) | ((with_reducible refine Up.set ?_ ?_ _); rotate_left; focus (first | omega | (simp; done) | (simp; omega))) | (with_reducible refine Up.drewN ?_ _) | (with_reducible refine Up.call ?_ (by with_reducible assumption))))
          · rw [H.out, Hda.out, Hdb.out]; exact bcomF_bad Hcm.out
      | ok x =>
        have Hcm := hid hcm; clear hcm
        go_upto_region 5 with fail
        go_cut [8, 9] (fun s8 s9 wx => ∃ g : Nat, s8 = .pointer (some ⟨g, 0, none⟩) ∧ s9 = .int .i64 0 ∧ g < wx.heap.size ∧ wx.cell? ⟨g, 0, none⟩ = some (.int .i64 x.lo) ∧ wx.cell? ⟨g, 1, none⟩ = some (.int .i64 x.hi) ∧ Hid (OwnS wx w.heap.size u6 L) ∧ Up w wx)
        case first =>
          go_region_law (go_simp; ((go_at_call 87; (with_reducible refine (rmeet_any _ _ _ _ _).mono ?_); rintro e w1 ⟨x1, hx1, rfl, hb1⟩ <;> (rw [Hcm.out] at hx1; subst hx1; have hu1 : Up wr w1 := (by (repeat (first | (with_reducible exact Up.refl _) | (with_reducible assumption) | (with_reducible refine Up.alloc ?_ _) | (with_reducible refine Up.drew ?_) | ((with_reducible refine Up.set ?_ ?_ _); rotate_left; focus (first | omega | (simp; done) | (simp; omega))) | (with_reducible refine Up.drewN ?_ _) | (with_reducible refine Up.call ?_ (by with_reducible assumption))))); have Hown1 := hid (Hown.out.up hu1); clear hu1)) <;> (have hle := Up.le hb1; (try simp only [World.size_alloc, World.size_setCell, World.size_drew, World.heap_drewN] at hle); (try (have _ : w.heap.size < w1.heap.size := (by omega); (try (apply fk hb1 (w.heap.size); (focus (go_simp; rfl)); (focus (intro o; go_simp)); intro z; (try clear f_0); have f_0 := z; clear z)); (try (apply ck hb1 (w.heap.size) 0; (focus (go_simp; rfl)); intro z; (try clear c_0_0); have c_0_0 := z; clear z; (try (apply ck hb1 (w.heap.size) 1; (focus (go_simp; rfl)); intro z; (try clear c_0_1); have c_0_1 := z; clear z)))))); (try (have _ : wr.heap.size < w1.heap.size := (by omega); (try (apply fk hb1 (wr.heap.size); (focus (go_simp; rfl)); (focus (intro o; go_simp)); intro z; (try clear fr_0); have fr_0 := z; clear z)); (try (apply ck hb1 (wr.heap.size) 0; (focus (go_simp; rfl)); intro z; (try clear cr_0_0); have cr_0_0 := z; clear z; (try (apply ck hb1 (wr.heap.size) 1; (focus (go_simp; rfl)); intro z; (try clear cr_0_1); have cr_0_1 := z; clear z)))))); clear hle; (try (apply old_keep (w0 := w) (w := w1); (focus ((repeat (first | (with_reducible exact Up.refl _) | (with_reducible assumption) | (with_reducible refine Up.alloc ?_ _) | (with_reducible refine Up.drew ?_) | ((with_reducible refine Up.set ?_ ?_ _); rotate_left; focus (first | omega | (simp; done) | (simp; omega))) | (with_reducible refine Up.drewN ?_ _) | (with_reducible refine Up.call ?_ (by with_reducible assumption)))))); intro y z; (try clear hUp); (try clear hOld); have hUp := y; have hOld := z; clear y z)))))
          all_goals
            go_wp2_with fail
            go_meet
            refine ⟨_, rfl, rfl, ?_, ?_, ?_, ?_, ?_⟩
            · first | (simp; done) | (simp; omega) | omega
            · first | (go_simp; done) | (go_simp; rfl)
            · first | (go_simp; done) | (go_simp; rfl)
            · show OwnS _ _ _ _
              have hn : ∀ o : Nat, u6.ownBlock ≠ some (⟨wr.heap.size, o, none⟩ : Addr).block := fun o e => by have := (Hown.out.lt _ e).2; simp at this
              first | exact (Hown1.out.set (hn _) _).set (hn _) _ | exact Hown1.out.up (by (repeat (first | (with_reducible exact Up.refl _) | (with_reducible assumption) | (with_reducible refine Up.alloc ?_ _) | (with_reducible refine Up.drew ?_) | ((with_reducible refine Up.set ?_ ?_ _); rotate_left; focus (first | omega | (simp; done) | (simp; omega))) | (with_reducible refine Up.drewN ?_ _) | (with_reducible refine Up.call ?_ (by with_reducible assumption)))))
            · (repeat (first | (with_reducible exact Up.refl _) | (with_reducible assumption) | (with_reducible refine Up.alloc ?_ _) | (with_reducible refine Up.drew ?_) | ((with_reducible refine Up.set ?_ ?_ _); rotate_left; focus (first | omega | (simp; done) | (simp; omega))) | (with_reducible refine Up.drewN ?_ _) | (with_reducible refine Up.call ?_ (by with_reducible assumption))))
        case rest =>
          obtain ⟨g, rfl, rfl, lg, cg0, cg1, Hown1, HU1⟩ := hcut
          have hle1 := HU1.le
          have HU := hid HU1; clear HU1
          go_wp2_with (at_builtin; refine wpList_append_own_at _ rfl (.tmp 31) (.tmp 33) _ rfl w.heap.size 56 i0 (.agg #[.int .i64 0, .int .i64 0]) 2 16 Tryd.underlying23 hi0 hz0 hz1 hz2 rfl (by decide) _ _ _ rfl (Hown1.out.up ((Up.refl wc).alloc _)) ⟨wc.heap.size, 0, none⟩ 1 1 [.int .i64 x.lo, .int .i64 x.hi] rfl rfl (cell_two_new _ _ _ _) (by simp [Value.oneCell']) (by have := HL4.out; unfold maxLen; omega) (by have := HL4.out; omega) (by simp; omega) ?_; intro v8 w2 own8 g8 _ at8)
          go_roundw
          case rel =>
            refine ⟨k + 1, L ++ [x], by omega, by go_num, ?_, ?_, OwnS.snoc own8, OwnS.grown (HU.out.alloc _) (Hown1.out.up ((Up.refl wc).alloc _)) g8⟩
            · show _ = _
              rw [H.out, Hda.out, Hdb.out]; exact bcomF_good Hcm.out
            · show _ = _
              have := HL.out; simp; omega
          case measure => simp [intOf]; omega
    · obtain rfl : k = a.length := by omega
      obtain ⟨A', c', hv, hrd1, hc1⟩ := hown.rd
      subst hv
      have Hrd := hid hrd1
      clear hown hrd1
      go_wp2
      go_ret2
      refine RetR.mk (.ok L) hU ?_ (rel := slNm) ⟨A', c', rfl, Hrd.out, hc1⟩
      rw [H.out, List.drop_length, Hl.out, List.drop_length]
      simp [bcomF, preS]
set_option maxRecDepth 100000 in
set_option maxHeartbeats 2000000 in
theorem rhalve_any (A : Option Addr) (l : List Sp) (c : Nat) (w : World) (hr : RdS w A l) (h0 : 0 < l.length) (hm : l.length ≤ 1000) (hs : ∀ s ∈ l, Rt s) :
    Calls Tryd.prog 66 #[.slice A l.length c] w (RetR (own2 w.heap.size) (halvesF l) w) := by
  obtain ⟨i0, hi0', hz0, hz1, hz2⟩ := info_parts Tryd.infoSpan
  have Hr := hid hr
  obtain ⟨b, o, rfl, hb, hc⟩ := hr.at h0
  have hwl := widestF_lt h0
  obtain ⟨d1, d2⟩ := hc (widestF l) hwl
  have hrt := hs _ (mem_at hwl)
  have hE := halvesF_eq l
  have Hwd := hid (fun W hW => rwidest_any (some ⟨b, o, none⟩) l c W hW h0 hm hs)
  have Hset := hid (fun n => spans_set l (widestF l) hwl n)
  unfold sAt at hrt
  generalize hgi : widestF l = i at *
  generalize hgs : l[i]?.getD ⟨0, 0⟩ = s at *
  have HE := hid hE; have Hm := hid hm; have HI := hid hgi; have H0 := hid h0; have Hil := hid (show i < l.length from hwl); have Hsp := hid (spans_at l i hwl)
  rw [hgs] at Hsp
  have hi0 : (0 : Int) ≤ (i : Int) := by omega
  have hil : (i : Int) < (l.length : Int) := by omega
  have Hc := hid (fun W (hU : Up w W) => spans_cells (w := W) (b := b) (o := o) (l := l) (fun k hk => ⟨(Below.cell hU (p := ⟨b, o + k * 2, none⟩) hb).trans (hc k hk).1, (Below.cell hU (p := ⟨b, o + k * 2 + 1, none⟩) hb).trans (hc k hk).2⟩))
  clear hr hc hm hs hE h0 hgi
  have Hhalf := hid (fun W => rmiddle_any s.lo s.hi W hrt.1 hrt.2.1)
  have HH := hid (half_bd hrt)
  clear hrt
  go_enter Tryd.func66, Tryd.ntmps66
  go_wp2_with (first
    | (at_builtin; refine wpList_append_grows _ rfl (.tmp 8) (.tmp 9) _ rfl 56 i0 (.agg #[.int .i64 0, .int .i64 0]) 2 16 Tryd.underlying23 hi0' hz0 hz1 hz2 rfl (by decide) none 0 0 [] rfl (fun _ => ⟨rfl, rfl⟩) rfl (fun _ h => by cases h) ⟨b, o, none⟩ l.length c (spans l) rfl (spans_len l) (Hc.out _ (by (repeat (first | (with_reducible exact Up.refl _) | (with_reducible assumption) | (with_reducible refine Up.alloc ?_ _) | (with_reducible refine Up.drew ?_) | ((with_reducible refine Up.set ?_ ?_ _); rotate_left; focus (first | omega | (simp; done) | (simp; omega))) | (with_reducible refine Up.drewN ?_ _) | (with_reducible refine Up.call ?_ (by with_reducible assumption)))))) (spans_one l) (by have := H0.out; omega) (by have := Hm.out; unfold maxLen; omega) (by have := Hm.out; omega) ?_; intro v1 w1 own1 g1; have hb1 : Up w w1 := Below.grown (Up.refl w) g1 (Nat.le_refl _) (fun j hj => by cases hj); have hv1 : OwnS w1 w.heap.size v1 l := (by unfold OwnS; simpa using own1); obtain ⟨q1, k1, rfl, gb1, gl1⟩ := World.ownsRow.form hv1 H0.out; have Hv1 := hid hv1; obtain ⟨hc1, hf1⟩ := bcell hb1; have hm1 := hb1.le; (have _ : b < w1.heap.size := (by omega)); clear hv1 own1 g1)
    | (at_builtin; refine wpList_append_grows _ rfl (.tmp 11) (.tmp 12) _ rfl 56 i0 (.agg #[.int .i64 0, .int .i64 0]) 2 16 Tryd.underlying23 hi0' hz0 hz1 hz2 rfl (by decide) none 0 0 [] rfl (fun _ => ⟨rfl, rfl⟩) rfl (fun _ h => by cases h) ⟨b, o, none⟩ l.length c (spans l) rfl (spans_len l) (Hc.out _ (by (repeat (first | (with_reducible exact Up.refl _) | (with_reducible assumption) | (with_reducible refine Up.alloc ?_ _) | (with_reducible refine Up.drew ?_) | ((with_reducible refine Up.set ?_ ?_ _); rotate_left; focus (first | omega | (simp; done) | (simp; omega))) | (with_reducible refine Up.drewN ?_ _) | (with_reducible refine Up.call ?_ (by with_reducible assumption)))))) (spans_one l) (by have := H0.out; omega) (by have := Hm.out; unfold maxLen; omega) (by have := Hm.out; omega) ?_; intro v2 w2 own2' g2; have hb2 : Up w1 w2 := Below.grown (Up.refl w1) g2 (Nat.le_refl _) (fun j hj => by cases hj); have hv2 : OwnS w2 w1.heap.size v2 l := (by unfold OwnS; simpa using own2'); obtain ⟨q2, k2, rfl, gb2, gl2⟩ := World.ownsRow.form hv2 H0.out; have Hv2 := hid hv2; obtain ⟨hc2, hf2⟩ := bcell hb2; have hm2 := hb2.le; (have _ : b < w2.heap.size := (by omega)); clear hv2 own2' g2)
    | ((go_at_call 51; refine (Hwd.out _ (Hr.out.up (by (repeat (first | (with_reducible exact Up.refl _) | (with_reducible assumption) | (with_reducible refine Up.alloc ?_ _) | (with_reducible refine Up.drew ?_) | ((with_reducible refine Up.set ?_ ?_ _); rotate_left; focus (first | omega | (simp; done) | (simp; omega))) | (with_reducible refine Up.drewN ?_ _) | (with_reducible refine Up.call ?_ (by with_reducible assumption))))))).mono ?_; rintro e w3 ⟨x3, hx3, rfl, hb3⟩); subst hx3; obtain ⟨hc3, hf3⟩ := bcell hb3; have hm3 := hb3.le; (have _ : b < w3.heap.size := (by omega)))
    | ((go_at_call 105; refine (Hhalf.out _).mono ?_; rintro e w4 ⟨x4, hx4, rfl, hb4⟩); have u14 := (hb2.call hb3).call hb4; have u24 := hb3.call hb4; have hO1 := Hv1.out.up u14; have hO2 := Hv2.out.up u24; have y1 := World.ownsRow.cellAt hO1 (i * 2 + 1) (by have := Hil.out; omega); rw [Hsp.out.2] at y1; have y2 := World.ownsRow.cellAt hO2 (i * 2) (by have := Hil.out; omega); rw [Hsp.out.1] at y2; have z1 := World.ownsRow.frozenAt hO1; have z2 := World.ownsRow.frozenAt hO2; have m1 := u14.le; have m2 := u24.le; have m3 := hb1.le; have g1g2 : q1 < q2 := (by omega); have _ : q1 < w4.heap.size := (by omega); have _ : q2 < w4.heap.size := (by omega); have HO1 := hid hO1; have HO2 := hid hO2; clear hO1 hO2 u14 u24))
  go_ret2
  have hx4' : halfF s = x4 := hx4
  have hE2 := HE.out
  rw [hx4'] at hE2
  refine RetR.mk (l.set i ⟨s.lo, x4⟩, l.set i ⟨x4, s.hi⟩) ?_ hE2 (rel := own2 w.heap.size) ⟨_, _, rfl, ?_, ?_⟩
  · (repeat (first | (with_reducible exact Up.refl _) | (with_reducible assumption) | (with_reducible refine Up.alloc ?_ _) | (with_reducible refine Up.drew ?_) | ((with_reducible refine Up.set ?_ ?_ _); rotate_left; focus (first | omega | (simp; done) | (simp; omega))) | (with_reducible refine Up.drewN ?_ _) | (with_reducible refine Up.call ?_ (by with_reducible assumption))))
  · have q := (World.ownsRow.stored HO1.out (i * 2 + 1) (.int .i64 x4)).1
    rw [(Hset.out x4).2] at q
    have qq : OwnS (w4.setCell ⟨q1, i * 2 + 1, none⟩ (.int .i64 x4)) w.heap.size (.slice (some ⟨q1, 0, none⟩) l.length k1) (l.set i ⟨s.lo, x4⟩) := by unfold OwnS; rw [List.length_set]; exact q
    exact qq.set (a := ⟨q2, i * 2, none⟩) (fun e => by injection e with e; simp at e; omega) _
  · have q0 := OwnS.set HO2.out (a := ⟨q1, i * 2 + 1, none⟩) (fun e => by injection e with e; simp at e; omega) (.int .i64 x4)
    have q := (World.ownsRow.stored q0 (i * 2) (.int .i64 x4)).1
    rw [(Hset.out x4).1] at q
    have qq : OwnS ((w4.setCell ⟨q1, i * 2 + 1, none⟩ (.int .i64 x4)).setCell ⟨q2, i * 2, none⟩ (.int .i64 x4)) w1.heap.size (.slice (some ⟨q2, 0, none⟩) l.length k2) (l.set i ⟨x4, s.hi⟩) := by unfold OwnS; rw [List.length_set]; exact q
    exact World.ownsRow.mono qq (by omega)
end Go.Proofs.YteoomjenekkomaaDoor
