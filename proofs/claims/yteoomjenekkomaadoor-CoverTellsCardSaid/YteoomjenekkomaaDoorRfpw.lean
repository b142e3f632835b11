/- The walk of the reference's Pieces of a box. -/
import Derived.Test.YteoomjenekkomaaDoorRfpl
import Derived.Test.YteoomjenekkomaaDoorRfbb
import Derived.Test.YteoomjenekkomaaDoorFlow
import Derived.Test.YteoomjenekkomaaDoorCover

set_option linter.unusedVariables false
set_option linter.unusedSimpArgs false
namespace Go.Proofs.YteoomjenekkomaaDoor
open Go.RowKit

/-- A slice of slices. -/
def rlR {α : Type} (R : World → Option Addr → List α → Prop) (w : World) (l : List (List α)) (v : Value) : Prop := ∃ A c, v = .slice A l.length c ∧ RdR R w A l ∧ l.length ≤ c
/-- Two more. -/
theorem OwnR.snoc2 {α : Type} {T : TypeId} {R : World → Option Addr → List α → Prop} (hR : Keeps R) {w w' : World} {base : Nat} {v v' : Value} {l : List (List α)} {x y : List α} {A B : Option Addr} {c d : Nat} {vs : List Value}
    (h : ∀ k, k < l.length → ∃ A c, vs[k]? = some (.slice A (l[k]?.getD []).length c) ∧ (l[k]?.getD []).length ≤ c ∧ R w A (l[k]?.getD []) ∧ ∀ b o, A = some ⟨b, o, none⟩ → b < w.heap.size ∧ v.ownBlock ≠ some b)
    (hx : R w A x) (hc : x.length ≤ c) (hb : ∀ b o, A = some ⟨b, o, none⟩ → b < w.heap.size ∧ v.ownBlock ≠ some b)
    (hy : R w B y) (hd : y.length ≤ d) (hb2 : ∀ b o, B = some ⟨b, o, none⟩ → b < w.heap.size ∧ v.ownBlock ≠ some b)
    (hlen : vs.length = l.length) (hown : w'.ownsRow base T 1 v' (l.length + 2) (vs ++ [.slice A x.length c, .slice B y.length d])) (hg : w.grownBy w' v.ownBlock) (hat : v'.ownBlock = v.ownBlock ∨ v'.ownBlock = some w.heap.size) : OwnR T R w' base v' (l ++ [x, y]) := by
  have hnew : ∀ b : Nat, b < w.heap.size ∧ v.ownBlock ≠ some b → b < w'.heap.size ∧ v'.ownBlock ≠ some b := by
    intro b hb
    refine ⟨Nat.lt_of_lt_of_le hb.1 hg.size, ?_⟩
    rcases hat with e | e
    · rw [e]; exact hb.2
    · rw [e]; intro e2; injection e2 with e2; omega
  refine ⟨_, by simpa using hown, fun k hk => ?_⟩
  by_cases hkl : k < l.length
  · obtain ⟨A2, c2, q1, q2, q3, q4⟩ := h k hkl
    rw [List.getElem?_append_left hkl, List.getElem?_append_left (by omega)]
    exact ⟨A2, c2, q1, q2, hR.grown q3 hg (fun b o e => (q4 b o e).2), fun b o e => hnew b (q4 b o e)⟩
  · rw [List.getElem?_append_right (by omega), List.getElem?_append_right (by omega), hlen]
    have hk2 : k - l.length = 0 ∨ k - l.length = 1 := by simp at hk; omega
    rcases hk2 with e | e
    · rw [e]
      exact ⟨A, c, rfl, hc, hR.grown hx hg (fun b o e => (hb b o e).2), fun b o e => hnew b (hb b o e)⟩
    · rw [e]
      exact ⟨B, d, rfl, hd, hR.grown hy hg (fun b o e => (hb2 b o e).2), fun b o e => hnew b (hb2 b o e)⟩
def hvs (b : List Sp) : List (List Sp) := [(halvesF b).1, (halvesF b).2]
theorem bfG_step (n : Nat) (L : List (List Sp)) : bfG (n + 1) L = bfG n (L.flatMap hvs) := rfl
theorem hdrop (l : List (List Sp)) (k : Nat) (h : k < l.length) : (l.drop k).flatMap hvs = [(halvesF (l[k]?.getD [])).1, (halvesF (l[k]?.getD [])).2] ++ (l.drop (k + 1)).flatMap hvs := by
  rw [List.drop_eq_getElem_cons h, List.getElem?_eq_getElem h, List.flatMap_cons]; rfl
set_option maxRecDepth 100000 in
set_option maxHeartbeats 4000000 in
theorem rpieces_any (C : Option Addr) (b : List Sp) (n : Nat) (e : Nat) (w : World) (hb : RdS w C b) (hcb : b.length ≤ e) (hB : Bx b) (hn : n ≤ 5) :
    Calls Tryd.prog 15 #[.slice C b.length e, .int .i64 (n : Int)] w (RetR (rlR RdS) (cpiecesG n b) w) := by
  have Hb := hid hb; have Hcb := hid hcb; have HB := hid hB; have Hn := hid hn
  obtain ⟨i0, hi0, hz0, hz1, hz2⟩ := info_parts Tryd.infoBox
  obtain ⟨bA, oA, rfl, lA, -⟩ := (Hb.out).at (by have := HB.out.pos; omega)
  rw [← bfG_one n b]
  clear hb hcb hB hn
  go_enter Tryd.func15, Tryd.ntmps15
  go_wp2
  have Hown0 := hid (OwnR.one (R := RdS) (T := 23) (base := w.heap.size) RdS.up (Nat.le_refl _) Hb.out Hcb.out (fun b o e => by injection e with e; injection e with e; omega))
  go_loopw [5, 6] (fun v i wr => ∃ (k : Nat) (L : List (List Sp)) (A3 : Option Addr) (c3 : Nat), k ≤ n ∧ v = .slice A3 L.length c3 ∧ i = .int .i64 k ∧ Hid (bfG n [b] = bfG (n - k) L) ∧ Hid (L.length = 2 ^ k) ∧ Hid (∀ x ∈ L, Bx x) ∧ Hid (RdR RdS wr A3 L) ∧ Hid (L.length ≤ c3) ∧ Up w wr) (fun _ i _ => n - (intOf i).toNat)
  case atStart =>
    obtain ⟨A4, c4, e4, hrd4, hc4⟩ := Hown0.out.rd
    injection e4 with e1 e2 e3
    subst e1; subst e3
    refine ⟨0, [b], _, _, by omega, rfl, rfl, rfl, rfl, fun x hx => ?_, hrd4, hc4, ?_⟩
    · obtain rfl := List.mem_singleton.1 hx
      exact HB.out
    · (repeat (first | (with_reducible exact Up.refl _) | (with_reducible assumption) | (with_reducible refine Up.alloc ?_ _) | (with_reducible refine Up.drew ?_) | ((with_reducible refine Up.set ?_ ?_ _); rotate_left; focus (first | omega | (simp; done) | (simp; omega))) | (with_reducible refine Up.drewN ?_ _) | (with_reducible refine Up.call ?_ (by with_reducible assumption))))
  case round =>
    obtain ⟨k, L, A3, c3, hk, rfl, rfl, H, HL, HBL, Hrd, Hc3, hU⟩ := hrel
    have gr := (bcell hU).1
    have hle := hU.le
    by_cases hlt : k < n
    · have hdk : decide ((k : Int) < (n : Int)) = true := by simp; omega
      have hk0 : (0 : Int) ≤ (k : Int) := by omega
      have hk9 : (k : Int) < 5 := by have := Hn.out; omega
      have HL5 := hid (show L.length ≤ 32 by rw [HL.out]; exact pow_few (by have := Hn.out; omega))
      have Hlt := hid hlt
      have HUw := hid hU
      clear gr
      go_wp2
      obtain ⟨wo, hwo⟩ : ∃ x, x = wr := ⟨_, rfl⟩
      subst hwo
      go_loopw [7, 8] (fun v i wq => ∃ (j : Nat) (N : List (List Sp)), j ≤ L.length ∧ i = .int .i64 j ∧ Hid (L.flatMap hvs = N ++ (L.drop j).flatMap hvs) ∧ Hid (N.length = 2 * j) ∧ Hid (∀ x ∈ N, Bx x) ∧ Hid (OwnR 23 RdS wq wo.heap.size v N) ∧ Up wo wq) (fun _ i _ => L.length - (intOf i).toNat)
      case atStart => exact ⟨0, [], by omega, rfl, rfl, rfl, fun x hx => (by cases hx), OwnR.nil _ _ _ _, Up.refl _⟩
      case round =>
        clear hU hle
        obtain ⟨j, N, hj, rfl, HJ, HN, HBN, Hown, hU⟩ := hrel
        have gr := (bcell hU).1
        have hle := hU.le
        by_cases hjl : j < L.length
        · obtain ⟨b1, o1, rfl, lb, cc⟩ := (Hrd.out).at (by omega)
          obtain ⟨A2, c2, q1, q2, q3⟩ := cc j hjl
          have j1 := (gr _ _ lb).trans q1
          have _ : b1 < wr.heap.size := by omega
          have Hq3 := hid (RdS.up q3 hU)
          have Hbx := hid (show Bx (L[j]?.getD []) by rw [List.getElem?_eq_getElem hjl]; exact HBL.out _ (List.getElem_mem hjl))
          have Hdr := hid (hdrop L j hjl)
          have hdj : decide ((j : Int) < (L.length : Int)) = true := by simp; omega
          have hj0 : (0 : Int) ≤ (j : Int) := by omega
          have hjm : (j : Int) < (L.length : Int) := by omega
          have hj9 : (j : Int) < 32 := by have := HL5.out; omega
          have Hjl := hid hjl
          generalize L[j]?.getD [] = x at *
          have Hhb := hid (halves_bx Hbx.out)
          clear gr hjl cc q1 q2 q3
          go_wp2_with (first
            | ((go_at_call 66; refine (rhalve_any _ x _ _ (Hq3.out.up (by (repeat (first | (with_reducible exact Up.refl _) | (with_reducible assumption) | (with_reducible refine Up.alloc ?_ _) | (with_reducible refine Up.drew ?_) | ((with_reducible refine Up.set ?_ ?_ _); rotate_left; focus (first | omega | (simp; done) | (simp; omega))) | (with_reducible refine Up.drewN ?_ _) | (with_reducible refine Up.call ?_ (by with_reducible assumption)))))) Hbx.out.pos (by have := Hbx.out.few; omega) Hbx.out.spans).mono ?_; rintro e w4 ⟨x4, v4, rfl, rfl, ⟨v1, v2, rfl, hv1, hv2⟩, hb4⟩); obtain ⟨A5, c5, rfl, hrd5, hc5⟩ := hv1.rd; obtain ⟨A6, c6, rfl, hrd6, hc6⟩ := hv2.rd; have Hrd5 := hid hrd5; have Hrd6 := hid hrd6; have Hc5 := hid hc5; have Hc6 := hid hc6; have Hn5 := hid (fun b o (e : A5 = some ⟨b, o, none⟩) => hv1.lt b (by rw [e]; rfl)); have Hn6 := hid (fun b o (e : A6 = some ⟨b, o, none⟩) => hv2.lt b (by rw [e]; rfl)); clear hv1 hv2 hrd5 hrd6 hc5 hc6; have UA : Up wr (w4.alloc (Obj.cells #[Value.slice A5 (halvesF x).1.length c5, Value.slice A6 (halvesF x).2.length c6] 23)) := (by (repeat (first | (with_reducible exact Up.refl _) | (with_reducible assumption) | (with_reducible refine Up.alloc ?_ _) | (with_reducible refine Up.drew ?_) | ((with_reducible refine Up.set ?_ ?_ _); rotate_left; focus (first | omega | (simp; done) | (simp; omega))) | (with_reducible refine Up.drewN ?_ _) | (with_reducible refine Up.call ?_ (by with_reducible assumption))))); obtain ⟨vs, p1, p2, p3⟩ := (OwnR.up keepsS Hown.out UA).parts; have Hp3 := hid p3; have HUA := hid UA; clear p3 UA)
            | (at_builtin; refine wpList_append_own_at _ rfl (.tmp 32) (.tmp 35) _ rfl wo.heap.size 23 i0 (.slice none 0 0) 1 24 Tryd.underlying27 hi0 hz0 hz1 hz2 rfl (by decide) _ _ _ rfl p1 ⟨w4.heap.size, 0, none⟩ 2 2 [.slice A5 (halvesF x).1.length c5, .slice A6 (halvesF x).2.length c6] rfl rfl (cell_two_new _ _ _ _) (by simp [Value.oneCell']) (by have := HN.out; have := HL5.out; have := Hjl.out; unfold maxLen; omega) (by have := HN.out; have := HL5.out; have := Hjl.out; omega) (by have := HUA.out.le; omega) ?_; intro v8 w5 own8 g8 _ at8))
          have Hlv := hid (fun b hb => (Hown.out.lt b hb))
          go_roundw
          case rel =>
            refine ⟨j + 1, N ++ [(halvesF x).1, (halvesF x).2], by have := Hjl.out; omega, by go_num, ?_, ?_, ?_, ?_, ?_⟩
            · show _ = _
              rw [HJ.out, Hdr.out]; simp
            · have := HN.out
              show _ = _
              simp; omega
            · show ∀ y ∈ _, Bx y
              intro y hy
              rcases List.mem_append.1 hy with h | h
              · exact HBN.out y h
              · simp at h
                rcases h with rfl | rfl
                · exact Hhb.out.1
                · exact Hhb.out.2
            · have hne : ∀ b : Nat, wr.heap.size ≤ b → u7.ownBlock ≠ some b := fun b hb e => by have := (Hlv.out b e).2; omega
              have hup := Up.le hb4
              exact OwnR.snoc2 keepsS Hp3.out (Hrd5.out.up ((Up.refl w4).alloc _)) Hc5.out (fun b o e => ⟨by have := (Hn5.out b o e).2; simp; omega, hne b (Hn5.out b o e).1⟩) (Hrd6.out.up ((Up.refl w4).alloc _)) Hc6.out (fun b o e => ⟨by have := (Hn6.out b o e).2; simp; omega, hne b (Hn6.out b o e).1⟩) p2 own8 g8 at8
            · exact Below.grown (hU.call HUA.out) g8 (hU.call HUA.out).le (fun j hj => (Hlv.out j hj).1)
          case measure => have := Hjl.out; simp [intOf]; omega
        · obtain rfl : j = L.length := by omega
          obtain ⟨A4, c4, rfl, hrd4, hc4⟩ := Hown.out.rd
          have Hrd4 := hid hrd4; have Hc4 := hid hc4
          have HUr := hid (HUw.out.call hU)
          clear gr hrd4 hc4
          go_wp2
          go_roundw
          case rel =>
            have e1 : L.flatMap hvs = N := by rw [HJ.out, List.drop_length]; simp
            refine ⟨k + 1, N, A4, c4, by have := Hlt.out; omega, rfl, by go_num, ?_, ?_, HBN.out, Hrd4.out, Hc4.out, HUr.out⟩
            · show _ = _
              have := Hlt.out
              rw [H.out, show n - k = (n - (k + 1)) + 1 by omega, bfG_step, e1]
            · show _ = _
              rw [HN.out, HL.out, Nat.pow_succ]; omega
          case measure => have := Hlt.out; simp [intOf]; omega
    · obtain rfl : k = n := by omega
      clear gr
      go_wp2
      go_ret
      refine RetR.mk L hU ?_ (rel := rlR RdS) ⟨A3, c3, rfl, Hrd.out, Hc3.out⟩
      rw [H.out, Nat.sub_self]; rfl

end Go.Proofs.YteoomjenekkomaaDoor
