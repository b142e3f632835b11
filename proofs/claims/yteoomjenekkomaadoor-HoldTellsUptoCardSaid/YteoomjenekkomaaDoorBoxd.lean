/- The walks of box.Common, Hull, Meet. -/
import Derived.Test.YteoomjenekkomaaDoorOwnS
import Derived.Deep.DeepCutAuto
set_option linter.unusedVariables false
set_option linter.unusedSimpArgs false
namespace Go.Proofs.YteoomjenekkomaaDoor
open Go.RowKit

def preS (L : List Sp) : Except Nat (List Sp) → Except Nat (List Sp)
  | .error e => .error e
  | .ok l => .ok (L ++ l)
theorem preS_nil (r : Except Nat (List Sp)) : preS [] r = r := by cases r <;> rfl
theorem bcomF_bad {s t : Sp} {a b L : List Sp} {e : Nat} (h : comF s t = .error e) : preS L (bcomF (s :: a) (t :: b)) = .error e := by
  unfold bcomF; rw [h]; rfl
theorem bcomF_good {s t x : Sp} {a b L : List Sp} (h : comF s t = .ok x) : preS L (bcomF (s :: a) (t :: b)) = preS (L ++ [x]) (bcomF a b) := by
  conv => lhs; unfold bcomF
  rw [h]
  dsimp only
  cases bcomF a b <;> simp [preS]
set_option maxRecDepth 100000 in
set_option maxHeartbeats 2000000 in
theorem bcom_any (A B : Option Addr) (a b : List Sp) (c d : Nat) (w : World) (ha : RdS w A a) (hb : RdS w B b) (hl : a.length = b.length) (hm : a.length ≤ 1000) :
    Calls Tryd.prog 124 #[.slice A a.length c, .slice B b.length d] w (RetR slE (bcomF a b) w) := by
  obtain ⟨i0, hi0, hz0, hz1, hz2⟩ := info_parts Tryd.infoSpan
  have Ha := hid ha; have Hb := hid hb; have Hl := hid hl; clear ha hb
  have hl1 : a.length ≤ b.length := by omega
  have hl2 : b.length ≤ a.length := by omega
  clear hl
  rw [← preS_nil (bcomF a b)]
  go_enter Tryd.func124, Tryd.ntmps124
  go_wp2
  go_loopw [6, 13] (fun v i wr => ∃ (k : Nat) (L : List Sp), k ≤ a.length ∧ i = .int .i64 k ∧ Hid (preS [] (bcomF a b) = preS L (bcomF (a.drop k) (b.drop k))) ∧ Hid (L.length = k) ∧ OwnS wr w.heap.size v L ∧ Up w wr) (fun _ i _ => a.length - (intOf i).toNat)
  case atStart => exact ⟨0, [], by omega, rfl, rfl, rfl, OwnS.nil _ _, Up.refl _⟩
  case round =>
    obtain ⟨k, L, hk, rfl, H, HL, hown, hU⟩ := hrel
    have gr := (bcell hU).1
    by_cases hlt : k < a.length
    · obtain ⟨b1, o1, rfl, l1, c1⟩ := (Ha.out).at (by omega)
      obtain ⟨b2, o2, rfl, l2, c2⟩ := (Hb.out).at (by omega)
      obtain ⟨k1, k2⟩ := c1 k hlt
      obtain ⟨k3, k4⟩ := c2 k (by omega)
      have Hda := hid (sdrop a k hlt)
      have Hdb := hid (sdrop b k (by omega))
      have HL4 := hid (show L.length ≤ 1000 by have := HL.out; omega)
      generalize a[k]?.getD ⟨0, 0⟩ = s at *
      generalize b[k]?.getD ⟨0, 0⟩ = t at *
      clear c1 c2
      have hle := hU.le
      have _ : b1 < wr.heap.size := by omega
      have _ : b2 < wr.heap.size := by omega
      have hdk : decide ((k : Int) < (a.length : Int)) = true := by simp; omega
      have hkb : ((k : Int) < (b.length : Int)) := by omega
      have hk0 : (0 : Int) ≤ (k : Int) := by omega
      have Hown := hid hown; clear hown
      cases hcm : comF s t with
      | error n =>
        have Hcm := hid hcm; clear hcm
        go_wp2_with fail
        go_region_law (go_simp; ((go_at_call 150; (with_reducible refine (common_any _ _ _ _ _).mono ?_); rintro e w1 ⟨x1, hx1, rfl, hb1⟩ <;> (rw [Hcm.out] at hx1; subst hx1)) <;> (have hle := Up.le hb1; (try simp only [World.size_alloc, World.size_setCell, World.size_drew, World.heap_drewN] at hle); (try (have _ : w.heap.size < w1.heap.size := (by omega); (try (apply fk hb1 (w.heap.size); (focus (go_simp; rfl)); (focus (intro o; go_simp)); intro z; (try clear f_0); have f_0 := z; clear z)); (try (apply ck hb1 (w.heap.size) 0; (focus (go_simp; rfl)); intro z; (try clear c_0_0); have c_0_0 := z; clear z; (try (apply ck hb1 (w.heap.size) 1; (focus (go_simp; rfl)); intro z; (try clear c_0_1); have c_0_1 := z; clear z)))); (try (have _ : w.heap.size + 1 < w1.heap.size := (by omega); (try (apply fk hb1 (w.heap.size + 1); (focus (go_simp; rfl)); (focus (intro o; go_simp)); intro z; (try clear f_1); have f_1 := z; clear z)); (try (apply ck hb1 (w.heap.size + 1) 0; (focus (go_simp; rfl)); intro z; (try clear c_1_0); have c_1_0 := z; clear z; (try (apply ck hb1 (w.heap.size + 1) 1; (focus (go_simp; rfl)); intro z; (try clear c_1_1); have c_1_1 := z; clear z)))); (try (have _ : w.heap.size + 1 + 1 < w1.heap.size := (by omega); (try (apply fk hb1 (w.heap.size + 1 + 1); (focus (go_simp; rfl)); (focus (intro o; go_simp)); intro z; (try clear f_2); have f_2 := z; clear z)); (try (apply ck hb1 (w.heap.size + 1 + 1) 0; (focus (go_simp; rfl)); intro z; (try clear c_2_0); have c_2_0 := z; clear z; (try (apply ck hb1 (w.heap.size + 1 + 1) 1; (focus (go_simp; rfl)); intro z; (try clear c_2_1); have c_2_1 := z; clear z)))); (try (have _ : w.heap.size + 1 + 1 + 1 < w1.heap.size := (by omega); (try (apply fk hb1 (w.heap.size + 1 + 1 + 1); (focus (go_simp; rfl)); (focus (intro o; go_simp)); intro z; (try clear f_3); have f_3 := z; clear z)); (try (apply ck hb1 (w.heap.size + 1 + 1 + 1) 0; (focus (go_simp; rfl)); intro z; (try clear c_3_0); have c_3_0 := z; clear z; (try (apply ck hb1 (w.heap.size + 1 + 1 + 1) 1; (focus (go_simp; rfl)); intro z; (try clear c_3_1); have c_3_1 := z; clear z)))); (try (have _ : w.heap.size + 1 + 1 + 1 + 1 < w1.heap.size := (by omega); (try (apply fk hb1 (w.heap.size + 1 + 1 + 1 + 1); (focus (go_simp; rfl)); (focus (intro o; go_simp)); intro z; (try clear f_4); have f_4 := z; clear z)); (try (apply ck hb1 (w.heap.size + 1 + 1 + 1 + 1) 0; (focus (go_simp; rfl)); intro z; (try clear c_4_0); have c_4_0 := z; clear z; (try (apply ck hb1 (w.heap.size + 1 + 1 + 1 + 1) 1; (focus (go_simp; rfl)); intro z; (try clear c_4_1); have c_4_1 := z; clear z)))))))))))))); (try (have _ : wr.heap.size < w1.heap.size := (by omega); (try (apply fk hb1 (wr.heap.size); (focus (go_simp; rfl)); (focus (intro o; go_simp)); intro z; (try clear fr_0); have fr_0 := z; clear z)); (try (apply ck hb1 (wr.heap.size) 0; (focus (go_simp; rfl)); intro z; (try clear cr_0_0); have cr_0_0 := z; clear z; (try (apply ck hb1 (wr.heap.size) 1; (focus (go_simp; rfl)); intro z; (try clear cr_0_1); have cr_0_1 := z; clear z)))); (try (have _ : wr.heap.size + 1 < w1.heap.size := (by omega); (try (apply fk hb1 (wr.heap.size + 1); (focus (go_simp; rfl)); (focus (intro o; go_simp)); intro z; (try clear fr_1); have fr_1 := z; clear z)); (try (apply ck hb1 (wr.heap.size + 1) 0; (focus (go_simp; rfl)); intro z; (try clear cr_1_0); have cr_1_0 := z; clear z; (try (apply ck hb1 (wr.heap.size + 1) 1; (focus (go_simp; rfl)); intro z; (try clear cr_1_1); have cr_1_1 := z; clear z)))); (try (have _ : wr.heap.size + 1 + 1 < w1.heap.size := (by omega); (try (apply fk hb1 (wr.heap.size + 1 + 1); (focus (go_simp; rfl)); (focus (intro o; go_simp)); intro z; (try clear fr_2); have fr_2 := z; clear z)); (try (apply ck hb1 (wr.heap.size + 1 + 1) 0; (focus (go_simp; rfl)); intro z; (try clear cr_2_0); have cr_2_0 := z; clear z; (try (apply ck hb1 (wr.heap.size + 1 + 1) 1; (focus (go_simp; rfl)); intro z; (try clear cr_2_1); have cr_2_1 := z; clear z)))); (try (have _ : wr.heap.size + 1 + 1 + 1 < w1.heap.size := (by omega); (try (apply fk hb1 (wr.heap.size + 1 + 1 + 1); (focus (go_simp; rfl)); (focus (intro o; go_simp)); intro z; (try clear fr_3); have fr_3 := z; clear z)); (try (apply ck hb1 (wr.heap.size + 1 + 1 + 1) 0; (focus (go_simp; rfl)); intro z; (try clear cr_3_0); have cr_3_0 := z; clear z; (try (apply ck hb1 (wr.heap.size + 1 + 1 + 1) 1; (focus (go_simp; rfl)); intro z; (try clear cr_3_1); have cr_3_1 := z; clear z)))); (try (have _ : wr.heap.size + 1 + 1 + 1 + 1 < w1.heap.size := (by omega); (try (apply fk hb1 (wr.heap.size + 1 + 1 + 1 + 1); (focus (go_simp; rfl)); (focus (intro o; go_simp)); intro z; (try clear fr_4); have fr_4 := z; clear z)); (try (apply ck hb1 (wr.heap.size + 1 + 1 + 1 + 1) 0; (focus (go_simp; rfl)); intro z; (try clear cr_4_0); have cr_4_0 := z; clear z; (try (apply ck hb1 (wr.heap.size + 1 + 1 + 1 + 1) 1; (focus (go_simp; rfl)); intro z; (try clear cr_4_1); have cr_4_1 := z; clear z)))))))))))))); clear hle; (try (apply old_keep (w0 := w) (w := w1); (focus ((repeat (first | (with_reducible exact Up.refl _) | (with_reducible assumption) | (with_reducible refine Up.alloc ?_ _) | (with_reducible refine Up.drew ?_) | ((with_reducible refine Up.set ?_ ?_ _); rotate_left; focus (first | omega | (simp; done) | (simp; omega))) | (with_reducible refine Up.drewN ?_ _) | (with_reducible refine Up.call ?_ (by with_reducible assumption)))))); intro y z; (try clear hUp); (try clear hOld); have hUp := y; have hOld := z; clear y z)))))
        all_goals go_wp2
        all_goals
          go_ret2
          refine RetR.mk (.error n) ?_ ?_ (rel := slE) rfl
          · (repeat (first | (with_reducible exact Up.refl _) | (with_reducible assumption) | (with_reducible refine Up.alloc ?_ _) | (with_reducible refine Up.drew ?_) | ((with_reducible refine Up.set ?_ ?_ _); rotate_left; focus (first | omega | (simp; done) | (simp; omega))) | (with_reducible refine Up.drewN ?_ _) | (with_reducible refine Up.call ?_ (by with_reducible assumption))))
          · rw [H.out, Hda.out, Hdb.out]; exact bcomF_bad Hcm.out
      | ok x =>
        have Hcm := hid hcm; clear hcm
        go_upto_region 5 with fail
        go_cut [9, 10] (fun s9 s10 wx => ∃ g : Nat, s9 = .pointer (some ⟨g, 0, none⟩) ∧ s10 = .nilIface ∧ g < wx.heap.size ∧ wx.cell? ⟨g, 0, none⟩ = some (.int .i64 x.lo) ∧ wx.cell? ⟨g, 1, none⟩ = some (.int .i64 x.hi) ∧ Hid (OwnS wx w.heap.size u6 L) ∧ Up w wx)
        case first =>
          go_region_law (go_simp; ((go_at_call 150; (with_reducible refine (common_any _ _ _ _ _).mono ?_); rintro e w1 ⟨x1, hx1, rfl, hb1⟩ <;> (rw [Hcm.out] at hx1; subst hx1; have hu1 : Up wr w1 := (by (repeat (first | (with_reducible exact Up.refl _) | (with_reducible assumption) | (with_reducible refine Up.alloc ?_ _) | (with_reducible refine Up.drew ?_) | ((with_reducible refine Up.set ?_ ?_ _); rotate_left; focus (first | omega | (simp; done) | (simp; omega))) | (with_reducible refine Up.drewN ?_ _) | (with_reducible refine Up.call ?_ (by with_reducible assumption))))); have Hown1 := hid (Hown.out.up hu1); clear hu1)) <;> (have hle := Up.le hb1; (try simp only [World.size_alloc, World.size_setCell, World.size_drew, World.heap_drewN] at hle); (try (have _ : w.heap.size < w1.heap.size := (by omega); (try (apply fk hb1 (w.heap.size); (focus (go_simp; rfl)); (focus (intro o; go_simp)); intro z; (try clear f_0); have f_0 := z; clear z)); (try (apply ck hb1 (w.heap.size) 0; (focus (go_simp; rfl)); intro z; (try clear c_0_0); have c_0_0 := z; clear z; (try (apply ck hb1 (w.heap.size) 1; (focus (go_simp; rfl)); intro z; (try clear c_0_1); have c_0_1 := z; clear z)))); (try (have _ : w.heap.size + 1 < w1.heap.size := (by omega); (try (apply fk hb1 (w.heap.size + 1); (focus (go_simp; rfl)); (focus (intro o; go_simp)); intro z; (try clear f_1); have f_1 := z; clear z)); (try (apply ck hb1 (w.heap.size + 1) 0; (focus (go_simp; rfl)); intro z; (try clear c_1_0); have c_1_0 := z; clear z; (try (apply ck hb1 (w.heap.size + 1) 1; (focus (go_simp; rfl)); intro z; (try clear c_1_1); have c_1_1 := z; clear z)))); (try (have _ : w.heap.size + 1 + 1 < w1.heap.size := (by omega); (try (apply fk hb1 (w.heap.size + 1 + 1); (focus (go_simp; rfl)); (focus (intro o; go_simp)); intro z; (try clear f_2); have f_2 := z; clear z)); (try (apply ck hb1 (w.heap.size + 1 + 1) 0; (focus (go_simp; rfl)); intro z; (try clear c_2_0); have c_2_0 := z; clear z; (try (apply ck hb1 (w.heap.size + 1 + 1) 1; (focus (go_simp; rfl)); intro z; (try clear c_2_1); have c_2_1 := z; clear z)))); (try (have _ : w.heap.size + 1 + 1 + 1 < w1.heap.size := (by omega); (try (apply fk hb1 (w.heap.size + 1 + 1 + 1); (focus (go_simp; rfl)); (focus (intro o; go_simp)); intro z; (try clear f_3); have f_3 := z; clear z)); (try (apply ck hb1 (w.heap.size + 1 + 1 + 1) 0; (focus (go_simp; rfl)); intro z; (try clear c_3_0); have c_3_0 := z; clear z; (try (apply ck hb1 (w.heap.size + 1 + 1 + 1) 1; (focus (go_simp; rfl)); intro z; (try clear c_3_1); have c_3_1 := z; clear z)))); (try (have _ : w.heap.size + 1 + 1 + 1 + 1 < w1.heap.size := (by omega); (try (apply fk hb1 (w.heap.size + 1 + 1 + 1 + 1); (focus (go_simp; rfl)); (focus (intro o; go_simp)); intro z; (try clear f_4); have f_4 := z; clear z)); (try (apply ck hb1 (w.heap.size + 1 + 1 + 1 + 1) 0; (focus (go_simp; rfl)); intro z; (try clear c_4_0); have c_4_0 := z; clear z; (try (apply ck hb1 (w.heap.size + 1 + 1 + 1 + 1) 1; (focus (go_simp; rfl)); intro z; (try clear c_4_1); have c_4_1 := z; clear z)))))))))))))); (try (have _ : wr.heap.size < w1.heap.size := (by omega); (try (apply fk hb1 (wr.heap.size); (focus (go_simp; rfl)); (focus (intro o; go_simp)); intro z; (try clear fr_0); have fr_0 := z; clear z)); (try (apply ck hb1 (wr.heap.size) 0; (focus (go_simp; rfl)); intro z; (try clear cr_0_0); have cr_0_0 := z; clear z; (try (apply ck hb1 (wr.heap.size) 1; (focus (go_simp; rfl)); intro z; (try clear cr_0_1); have cr_0_1 := z; clear z)))); (try (have _ : wr.heap.size + 1 < w1.heap.size := (by omega); (try (apply fk hb1 (wr.heap.size + 1); (focus (go_simp; rfl)); (focus (intro o; go_simp)); intro z; (try clear fr_1); have fr_1 := z; clear z)); (try (apply ck hb1 (wr.heap.size + 1) 0; (focus (go_simp; rfl)); intro z; (try clear cr_1_0); have cr_1_0 := z; clear z; (try (apply ck hb1 (wr.heap.size + 1) 1; (focus (go_simp; rfl)); intro z; (try clear cr_1_1); have cr_1_1 := z; clear z)))); (try (have _ : wr.heap.size + 1 + 1 < w1.heap.size := (by omega); (try (apply fk hb1 (wr.heap.size + 1 + 1); (focus (go_simp; rfl)); (focus (intro o; go_simp)); intro z; (try clear fr_2); have fr_2 := z; clear z)); (try (apply ck hb1 (wr.heap.size + 1 + 1) 0; (focus (go_simp; rfl)); intro z; (try clear cr_2_0); have cr_2_0 := z; clear z; (try (apply ck hb1 (wr.heap.size + 1 + 1) 1; (focus (go_simp; rfl)); intro z; (try clear cr_2_1); have cr_2_1 := z; clear z)))); (try (have _ : wr.heap.size + 1 + 1 + 1 < w1.heap.size := (by omega); (try (apply fk hb1 (wr.heap.size + 1 + 1 + 1); (focus (go_simp; rfl)); (focus (intro o; go_simp)); intro z; (try clear fr_3); have fr_3 := z; clear z)); (try (apply ck hb1 (wr.heap.size + 1 + 1 + 1) 0; (focus (go_simp; rfl)); intro z; (try clear cr_3_0); have cr_3_0 := z; clear z; (try (apply ck hb1 (wr.heap.size + 1 + 1 + 1) 1; (focus (go_simp; rfl)); intro z; (try clear cr_3_1); have cr_3_1 := z; clear z)))); (try (have _ : wr.heap.size + 1 + 1 + 1 + 1 < w1.heap.size := (by omega); (try (apply fk hb1 (wr.heap.size + 1 + 1 + 1 + 1); (focus (go_simp; rfl)); (focus (intro o; go_simp)); intro z; (try clear fr_4); have fr_4 := z; clear z)); (try (apply ck hb1 (wr.heap.size + 1 + 1 + 1 + 1) 0; (focus (go_simp; rfl)); intro z; (try clear cr_4_0); have cr_4_0 := z; clear z; (try (apply ck hb1 (wr.heap.size + 1 + 1 + 1 + 1) 1; (focus (go_simp; rfl)); intro z; (try clear cr_4_1); have cr_4_1 := z; clear z)))))))))))))); clear hle; (try (apply old_keep (w0 := w) (w := w1); (focus ((repeat (first | (with_reducible exact Up.refl _) | (with_reducible assumption) | (with_reducible refine Up.alloc ?_ _) | (with_reducible refine Up.drew ?_) | ((with_reducible refine Up.set ?_ ?_ _); rotate_left; focus (first | omega | (simp; done) | (simp; omega))) | (with_reducible refine Up.drewN ?_ _) | (with_reducible refine Up.call ?_ (by with_reducible assumption)))))); intro y z; (try clear hUp); (try clear hOld); have hUp := y; have hOld := z; clear y z)))))
          all_goals
            go_wp2_with fail
            go_meet
            refine ⟨_, rfl, rfl, ?_, ?_, ?_, ?_, ?_⟩
            · first | (simp; done) | (simp; omega) | omega
            · first | (go_simp; done) | (go_simp; rfl)
            · first | (go_simp; done) | (go_simp; rfl)
            · show OwnS _ _ _ _
              have hn : ∀ o : Nat, u6.ownBlock ≠ some (⟨wr.heap.size + 1, o, none⟩ : Addr).block := fun o e => by have := (Hown.out.lt _ e).2; simp at this; omega
              first | exact (Hown1.out.set (hn _) _).set (hn _) _ | exact Hown1.out.up (by (repeat (first | (with_reducible exact Up.refl _) | (with_reducible assumption) | (with_reducible refine Up.alloc ?_ _) | (with_reducible refine Up.drew ?_) | ((with_reducible refine Up.set ?_ ?_ _); rotate_left; focus (first | omega | (simp; done) | (simp; omega))) | (with_reducible refine Up.drewN ?_ _) | (with_reducible refine Up.call ?_ (by with_reducible assumption)))))
            · (repeat (first | (with_reducible exact Up.refl _) | (with_reducible assumption) | (with_reducible refine Up.alloc ?_ _) | (with_reducible refine Up.drew ?_) | ((with_reducible refine Up.set ?_ ?_ _); rotate_left; focus (first | omega | (simp; done) | (simp; omega))) | (with_reducible refine Up.drewN ?_ _) | (with_reducible refine Up.call ?_ (by with_reducible assumption))))
        case rest =>
          obtain ⟨g, rfl, rfl, lg, cg0, cg1, Hown1, HU1⟩ := hcut
          have hle1 := HU1.le
          have HU := hid HU1; clear HU1
          go_wp2_with (at_builtin; refine wpList_append_own_at _ rfl (.tmp 30) (.tmp 32) _ rfl w.heap.size 56 i0 (.agg #[.int .i64 0, .int .i64 0]) 2 16 Tryd.underlying23 hi0 hz0 hz1 hz2 rfl (by decide) _ _ _ rfl (Hown1.out.up ((Up.refl wc).alloc _)) ⟨wc.heap.size, 0, none⟩ 1 1 [.int .i64 x.lo, .int .i64 x.hi] rfl rfl (cell_two_new _ _ _ _) (by simp [Value.oneCell']) (by have := HL4.out; unfold maxLen; omega) (by have := HL4.out; omega) (by simp; omega) ?_; intro v8 w2 own8 g8 _ at8)
          go_roundw
          case rel =>
            refine ⟨k + 1, L ++ [x], by omega, by go_num, ?_, ?_, OwnS.snoc own8, OwnS.grown (HU.out.alloc _) (Hown1.out.up ((Up.refl wc).alloc _)) g8⟩
            · show _ = _
              rw [H.out, Hda.out, Hdb.out]; exact bcomF_good Hcm.out
            · show _ = _
              have := HL.out; simp; omega
          case measure => simp [intOf]; omega
    · obtain rfl : k = a.length := by omega
      obtain ⟨A', c', hv, hrd1, hc1⟩ := hown.rd
      subst hv
      have Hrd := hid hrd1
      clear hown hrd1
      go_wp2
      go_ret2
      refine RetR.mk (.ok L) hU ?_ (rel := slE) ⟨A', c', rfl, Hrd.out, hc1⟩
      rw [H.out, List.drop_length, Hl.out, List.drop_length]
      simp [bcomF, preS]
theorem slE_up {w w' : World} {r : Except Nat (List Sp)} {v : Value} (h : slE w r v) (hu : Up w w') : slE w' r v := by
  cases r with
  | error n => exact h
  | ok l =>
    obtain ⟨A, c, rfl, hr, hc⟩ := h
    exact ⟨A, c, rfl, hr.up hu, hc⟩
end Go.Proofs.YteoomjenekkomaaDoor
