/- The log, part three: all boxes, and the hull of all. -/
import Derived.Test.YtopgjbjpmnlldaaDoorLogb

set_option linter.unusedVariables false
set_option linter.unusedSimpArgs false
namespace Go.Proofs.YtopgjbjpmnlldaaDoor
open Go.RowKit


set_option maxRecDepth 100000 in
set_option maxHeartbeats 1000000 in
theorem bboth_own (A B : Option Addr) (a b : List Sp) (c d : Nat) (w : World) (ha : RdS w A a) (hb : RdS w B b) (hl : a.length = b.length) (hm : a.length ≤ 1000) :
    Calls Tryd.prog 43 #[.slice A a.length c, .slice B b.length d] w (RetR (fun w' l v => OwnS w' w.heap.size v l) (bbothF a b) w) := by
  obtain ⟨i0, hi0, hz0, hz1, hz2⟩ := info_parts Tryd.infoSpan
  have Ha := hid ha; have Hb := hid hb; have Hl := hid hl; clear ha hb
  have hl1 : a.length ≤ b.length := by omega
  have hl2 : b.length ≤ a.length := by omega
  clear hl
  go_enter Tryd.func43, Tryd.ntmps43
  go_wp2
  go_loopw [5, 10] (fun v i wr => ∃ (k : Nat) (L : List Sp), k ≤ a.length ∧ i = .int .i64 k ∧ Hid (L = bbothF (a.take k) (b.take k)) ∧ Hid (L.length = k) ∧ OwnS wr w.heap.size v L ∧ Up w wr) (fun _ i _ => a.length - (intOf i).toNat)
  case atStart => exact ⟨0, [], by omega, rfl, by show _ = _; simp [bbothF], rfl, OwnS.nil _ _, Up.refl _⟩
  case round =>
    obtain ⟨k, L, hk, rfl, H, HL, hown, hU⟩ := hrel
    have gr := (bcell hU).1
    by_cases hlt : k < a.length
    · obtain ⟨b1, o1, rfl, l1, c1⟩ := (Ha.out).at (by omega)
      obtain ⟨b2, o2, rfl, l2, c2⟩ := (Hb.out).at (by omega)
      obtain ⟨k1, k2⟩ := c1 k hlt
      obtain ⟨k3, k4⟩ := c2 k (by omega)
      have Hst := hid (bbothF_take Hl.out hlt)
      have HL4 := hid (show L.length ≤ 1000 by have := HL.out; omega)
      generalize a[k]?.getD ⟨0, 0⟩ = s at *
      generalize b[k]?.getD ⟨0, 0⟩ = t at *
      clear c1 c2
      have hle := hU.le
      have _ : b1 < wr.heap.size := by omega
      have _ : b2 < wr.heap.size := by omega
      have hdk : decide ((k : Int) < (a.length : Int)) = true := by simp; omega
      have hkb : ((k : Int) < (b.length : Int)) := by omega
      have hk0 : (0 : Int) ≤ (k : Int) := by omega
      have Hown := hid hown; clear hown
      go_wp2_with fail
      go_region_law (first
        | (refine step_append_lies _ (by rfl) _ _ _ (by rfl) w.heap.size 23 i0 _ 2 16 Tryd.underlying35 hi0 hz0 hz1 hz2 rfl (by omega) _ _ (spans L) (by rfl) (Hown1.out.up ((Up.refl w1).alloc _)) ⟨w1.heap.size, 0, none⟩ 1 1 [.int .i64 x1.lo, .int .i64 x1.hi] (by rfl) (by rfl) (cell_two_new _ _ _ _) (by simp [Value.oneCell']) (by omega) (by have := HL4.out; unfold maxLen; omega) (by have := HL4.out; omega) (by have := hU1.le; simp; omega) _ rfl ?_; intro gg cap w2 hown2 hgrow hat hlt)
        | (go_simp; go_at_call 63; refine (both_span _ _ _ _ _).mono ?_; rintro e w1 ⟨x1, hx1, rfl, hb1⟩; have Hx1 := hid hx1; clear hx1; have hu1 : Up wr w1 := (by (repeat (first | (with_reducible exact Up.refl _) | (with_reducible assumption) | (with_reducible refine Up.alloc ?_ _) | (with_reducible refine Up.drew ?_) | ((with_reducible refine Up.set ?_ ?_ _); rotate_left; focus (first | omega | (simp; done) | (simp; omega))) | (with_reducible refine Up.drewN ?_ _) | (with_reducible refine Up.call ?_ (by with_reducible assumption))))); have Hown1 := hid (Hown.out.up hu1); have hU1 : Up w w1 := hU.call hu1))
      all_goals go_wp2
      all_goals
        go_roundw
        case rel =>
          refine ⟨k + 1, L ++ [x1], by omega, by go_num, ?_, ?_, ?_, ?_⟩
          · show _ = _
            rw [Hst.out, ← H.out, ← Hx1.out]
          · show _ = _
            have := HL.out; simp; omega
          · have := OwnS.snoc hown2
            exact this
          · exact OwnS.grown (hU1.alloc _) (Hown1.out.up ((Up.refl w1).alloc _)) hgrow
        case measure => simp [intOf]; omega
    · obtain rfl : k = a.length := by omega
      have hrd := hown.rd
      obtain ⟨A', c', hv, hrd1, hc1⟩ := hrd
      subst hv
      have Hown := hid hown
      clear hown hrd1
      go_wp2
      go_ret
      refine RetR.mk L hU ?_ (rel := fun w' l v => OwnS w' w.heap.size v l) Hown.out
      rw [H.out, List.take_length, Hl.out, List.take_length]
/-- A slice of boxes. -/
def rbR (w : World) (l : List (List Sp)) (v : Value) : Prop := ∃ A c, v = .slice A l.length c ∧ RdR RdS w A l ∧ l.length ≤ c
/-- The row of the log, read at k. -/
theorem LogS.at {Q : Nat → Prop} {W : World} {g : Nat} {v : Value} {l : Lg} (h : LogS Q W g v l) : ∃ A c, v = .slice A l.all.length c ∧ l.all.length ≤ c ∧ (0 < l.all.length → ∃ b o, A = some ⟨b, o, none⟩ ∧ b < W.heap.size ∧ ∀ k, k < l.all.length → ∃ A' c', W.cell? ⟨b, o + k, none⟩ = some (.slice A' (l.all[k]?.getD []).length c') ∧ RdS W A' (l.all[k]?.getD []) ∧ Bx (l.all[k]?.getD []) ∧ ((l.all[k]?.getD []).length : Int) = l.sides ∧ ∀ b o, A' = some ⟨b, o, none⟩ → ¬ Q b) := by
  obtain ⟨A, c, hv, hr, hc⟩ := h.own.rd
  refine ⟨A, c, hv, hc, fun h0 => ?_⟩
  obtain ⟨b, o, hA, hb, hk⟩ := hr.at h0
  refine ⟨b, o, hA, hb, fun k hkl => ?_⟩
  obtain ⟨A', c', q1, q2, q3⟩ := hk k hkl
  have hm : l.all[k]?.getD [] ∈ l.all := by rw [List.getElem?_eq_getElem hkl]; exact List.getElem_mem hkl
  obtain ⟨p1, p2⟩ := h.ok.boxes _ hm
  exact ⟨A', c', q1, q3.1, p1, p2, q3.2⟩
set_option maxRecDepth 100000 in
set_option maxHeartbeats 4000000 in
theorem all_any {Q : Nat → Prop} (g : Nat) (v : Value) (l : Lg) (w : World) (h : LogS Q w g v l) :
    Calls Tryd.prog 16 #[.pointer (some ⟨g, 0, none⟩)] w (RetR rbR l.all w) := by
  obtain ⟨i0, hi0, hz0, hz1, hz2⟩ := info_parts Tryd.infoBox
  obtain ⟨A, cp, rfl, hcp, hat⟩ := h.at
  obtain ⟨c1, f1⟩ := h.cells.c1
  have lg := h.lt
  have Hat := hid hat; have Hf := hid h.ok.few
  clear hat h
  go_enter Tryd.func16, Tryd.ntmps16
  go_wp2
  go_loopw [3, 11] (fun u i wr => ∃ k : Nat, k ≤ l.all.length ∧ i = .int .i64 k ∧ Hid (OwnR 35 RdS wr w.heap.size u (l.all.take k)) ∧ Up w wr) (fun _ i _ => l.all.length - (intOf i).toNat)
  case atStart => exact ⟨0, by omega, rfl, OwnR.nil _ _ _ _, Up.refl _⟩
  case round =>
    obtain ⟨k, hk, rfl, HO, hU⟩ := hrel
    have gr := (bcell hU).1
    have hle := hU.le
    have h20 := Hf.out
    by_cases hlt : k < l.all.length
    · obtain ⟨b, o, rfl, lb, hkk⟩ := Hat.out (by omega)
      obtain ⟨A', c', q1, q2, q3, q4, -⟩ := hkk k hlt
      have j1 := (gr _ _ lb).trans q1
      have hkm : (k : Int) < (l.all.length : Int) := by omega
      have hk0 : (0 : Int) ≤ (k : Int) := by omega
      have hk9 : (k : Int) < 20 := by omega
      have hdk : decide ((k : Int) < (l.all.length : Int)) = true := by simp; omega
      have lb2 : b < wr.heap.size := by omega
      have Hta := hid (show l.all.take (k + 1) = l.all.take k ++ [l.all[k]?.getD []] by
        rw [List.take_succ_eq_append_getElem hlt]; simp [List.getElem?_eq_getElem hlt])
      have Htl := hid (show (l.all.take k).length = k by rw [List.length_take]; omega)
      generalize l.all[k]?.getD [] = x at *
      have Hx := hid q2; have HB := hid q3; have Hlt := hid hlt
      clear q1 q2 q3 q4 hkk gr hlt
      obtain ⟨vs, p1, p2, p3⟩ := HO.out.parts
      have HP1 := hid p1; have HP2 := hid p2; have HP3 := hid p3
      rw [Htl.out] at HP1
      have HOW := hid (fun (W5 : World) (U : Up wr W5) (ob : Obj) => (World.ownsRow.kept HP1.out (row := none) (grown_up (U.alloc ob)) (by cases u3.ownBlock <;> simp) : (W5.alloc ob).ownsRow w.heap.size 35 1 u3 k vs))
      clear p1 p2 p3
      go_wp2_with (first
                        | ((go_at_call 42; (with_reducible refine (sclone_any _ x _ _ (Hx.out.up (by (repeat (first | (with_reducible exact Up.refl _) | (with_reducible assumption) | (with_reducible refine Up.alloc ?_ _) | (with_reducible refine Up.drew ?_) | ((with_reducible refine Up.set ?_ ?_ _); rotate_left; focus (first | omega | (simp; done) | (simp; omega))) | (with_reducible refine Up.drewN ?_ _) | (with_reducible refine Up.call ?_ (by with_reducible assumption)))))) HB.out.pos (by have := HB.out.few; omega)).mono ?_); rintro e w5 ⟨x5, v5, rfl, rfl, hv5, hb5⟩ <;> (have U5 : Up wr w5 := (by (repeat (first | (with_reducible exact Up.refl _) | (with_reducible assumption) | (with_reducible refine Up.alloc ?_ _) | (with_reducible refine Up.drew ?_) | ((with_reducible refine Up.set ?_ ?_ _); rotate_left; focus (first | omega | (simp; done) | (simp; omega))) | (with_reducible refine Up.drewN ?_ _) | (with_reducible refine Up.call ?_ (by with_reducible assumption))))); obtain ⟨A5, c5, rfl, hrd5, hc5⟩ := OwnS.rd hv5; have Hrd5 := hid hrd5; have Hc5 := hid hc5; have Hn5 := hid (fun b o (e : A5 = some ⟨b, o, none⟩) => OwnS.lt hv5 b (by rw [e]; rfl)); clear hv5 hrd5 hc5)) <;> (have hle := Up.le hb5; (try simp only [World.size_alloc, World.size_setCell, World.size_drew, World.heap_drewN] at hle); clear hle))
                        | (at_builtin; refine wpList_append_own_at _ rfl (.tmp 15) (.tmp 18) _ rfl w.heap.size 35 i0 (.slice none 0 0) 1 24 Tryd.underlying39 hi0 hz0 hz1 hz2 rfl (by decide) u3 k vs rfl (HOW.out w5 U5 _) ⟨w5.heap.size, 0, none⟩ 1 1 [.slice A5 x.length c5] rfl rfl (cell_one_new _ _ _) (by simp [Value.oneCell']) (by unfold maxLen; omega) (by omega) (by have := U5.le; simp; omega) ?_; intro v8 w6 own8 g8 _ at8))
      go_roundw
      case rel =>
        refine ⟨k + 1, by have := Hlt.out; omega, by go_num, ?_, ?_⟩
        · show OwnR _ _ _ _ _ _
          rw [Hta.out]
          refine OwnR.snoc (w := w5.alloc (Obj.cells #[Value.slice A5 x.length c5] 35)) keepsS (fun j hj => ?_) (Hrd5.out.up ((Up.refl w5).alloc _)) Hc5.out (fun bb oo e => ⟨by have := (Hn5.out bb oo e).2; simp; omega, fun e2 => ?_⟩) HP2.out (by rw [Htl.out]; exact own8) g8 at8
          · obtain ⟨A2, c2, z1, z2, z3, z4⟩ := HP3.out j hj
            exact ⟨A2, c2, z1, z2, z3.up (U5.alloc _), fun bb oo e => ⟨Nat.lt_of_lt_of_le (z4 bb oo e).1 (U5.alloc _).le, (z4 bb oo e).2⟩⟩
          · have z1 := (HO.out.lt _ e2).2
            have z2 := (Hn5.out bb oo e).1
            omega
        · exact Below.grown (hU.call (U5.alloc (Obj.cells #[Value.slice A5 x.length c5] 35))) g8 (hU.call (U5.alloc _)).le (fun j hj => (HO.out.lt j hj).1)
      case measure => have := Hlt.out; simp [intOf]; omega
    · obtain rfl : k = l.all.length := by omega
      have hO := HO.out
      rw [List.take_length] at hO
      obtain ⟨A4, c4, rfl, hrd4, hc4⟩ := hO.rd
      have Hrd4 := hid hrd4; have Hc4 := hid hc4
      clear gr hrd4 hc4 hO
      go_wp2
      go_ret
      exact RetR.mk l.all hU rfl (rel := rbR) ⟨A4, c4, rfl, Hrd4.out, Hc4.out⟩

def hullG (x : List Sp) (L : List (List Sp)) : List Sp := L.foldl bbothF x
def hullF (L : List (List Sp)) : Except Nat (List Sp) := match L with
  | [] => .error 5
  | x :: r => .ok (hullG x (x :: r))
/-- A box with an error; the box lies in new memory. -/
def boxR (base : Nat) (w : World) : Except Nat (List Sp) → Value → Prop
  | .ok l, v => ∃ A c, v = .tuple #[.slice A l.length c, .nilIface] ∧ RdS w A l ∧ l.length ≤ c ∧ ∀ b o, A = some ⟨b, o, none⟩ → base ≤ b
  | .error n, v => v = .tuple #[.slice none 0 0, .iface 62 (.int .i64 n)]
theorem boxR_ok {base : Nat} {w : World} {l : List Sp} {v : Value} (h : boxR base w (.ok l) v) : ∃ A c, v = .tuple #[.slice A l.length c, .nilIface] ∧ RdS w A l ∧ l.length ≤ c ∧ ∀ b o, A = some ⟨b, o, none⟩ → base ≤ b := h
theorem boxR_error {base : Nat} {w : World} {n : Nat} {v : Value} (h : boxR base w (.error n) v) : v = .tuple #[.slice none 0 0, .iface 62 (.int .i64 n)] := h
theorem hull_take {L : List (List Sp)} {x : List Sp} {k : Nat} (hk : k < L.length) : hullG x (L.take (k + 1)) = bbothF (hullG x (L.take k)) (L[k]?.getD []) := by
  unfold hullG
  rw [List.take_succ_eq_append_getElem hk, List.foldl_append]
  simp [List.getElem?_eq_getElem hk]
theorem hull_len {L : List (List Sp)} {x : List Sp} {n : Nat} (hx : x.length = n) (h : ∀ y ∈ L, y.length = n) : (hullG x L).length = n := by
  induction L generalizing x with
  | nil => exact hx
  | cons y L ih =>
    show (hullG (bbothF x y) L).length = n
    exact ih (by rw [bbothF_len (by rw [hx, h y (by simp)]), hx]) (fun z hz => h z (by simp [hz]))
set_option maxRecDepth 100000 in
set_option maxHeartbeats 4000000 in
theorem hull_any {Q : Nat → Prop} (g : Nat) (v : Value) (l : Lg) (w : World) (h : LogS Q w g v l) :
    Calls Tryd.prog 14 #[.pointer (some ⟨g, 0, none⟩)] w (RetR (boxR w.heap.size) (hullF l.all) w) := by
  obtain ⟨A, cp, rfl, hcp, hat⟩ := h.at
  obtain ⟨c1, f1⟩ := h.cells.c1
  have lg := h.lt
  have Hat := hid hat; have Hf := hid h.ok.few
  cases hL : l.all with
  | nil =>
    have e0 : l.all.length = 0 := by rw [hL]; rfl
    rw [e0] at c1
    clear hat h hcp Hf Hat
    simp only [hL] at *
    clear hL e0
    go_enter Tryd.func14, Tryd.ntmps14
    go_wp2
    go_ret2
    exact RetR.mk (.error 5) (by (repeat (first | (with_reducible exact Up.refl _) | (with_reducible assumption) | (with_reducible refine Up.alloc ?_ _) | (with_reducible refine Up.drew ?_) | ((with_reducible refine Up.set ?_ ?_ _); rotate_left; focus (first | omega | (simp; done) | (simp; omega))) | (with_reducible refine Up.drewN ?_ _) | (with_reducible refine Up.call ?_ (by with_reducible assumption))))) rfl (rel := boxR w.heap.size) rfl
  | cons x r =>
    have hx0 : l.all[0]?.getD [] = x := by rw [hL]; rfl
    have hl0 : 0 < l.all.length := by rw [hL]; simp
    have HBl := hid (show ∀ y ∈ l.all, (y.length : Int) = l.sides from fun y hy => (h.ok.boxes y hy).2)
    have Hx0 := hid hx0; have HL := hid hL
    obtain ⟨b, o, rfl, lb, hkk⟩ := hat hl0
    obtain ⟨A0, c0, q1, q2, q3, q4, -⟩ := hkk 0 hl0
    rw [hx0] at q1 q2 q3 q4
    have q1' : w.cell? ⟨b, o, none⟩ = some (.slice A0 x.length c0) := q1
    have hkk2 := hid hkk; have Hx := hid q2; have HB := hid q3; have Hq4 := hid q4
    have hz1 : decide ((0 : Int) < (l.all.length : Int)) = true := by simp; omega
    have hz2 : (0 : Int) < (l.all.length : Int) := by omega
    have hz3 : ((l.all.length : Int) == 0) = false := beq_eq_false_iff_ne.2 (by omega)
    have HN := hid (show ∀ j, (hullG x (l.all.take j)).length = x.length from fun j => hull_len rfl (fun y hy => by have h1 := HBl.out y (List.mem_of_mem_take hy); have h2 := HBl.out x (by rw [HL.out]; simp); omega))
    have HY := hid (show ∀ k, k < l.all.length → (l.all[k]?.getD []).length = x.length from fun k hk => by
      have hm : l.all[k]?.getD [] ∈ l.all := by rw [List.getElem?_eq_getElem hk]; exact List.getElem_mem hk
      have h1 := HBl.out _ hm; have h2 := HBl.out x (by rw [HL.out]; simp); omega)
    clear hat h hcp Hat q1 q2 q3 q4 hx0 hkk hL
    go_enter Tryd.func14, Tryd.ntmps14
    go_wp2_with (first
                        | ((go_at_call 42; (with_reducible refine (sclone_any _ x _ _ (Hx.out.up (by (repeat (first | (with_reducible exact Up.refl _) | (with_reducible assumption) | (with_reducible refine Up.alloc ?_ _) | (with_reducible refine Up.drew ?_) | ((with_reducible refine Up.set ?_ ?_ _); rotate_left; focus (first | omega | (simp; done) | (simp; omega))) | (with_reducible refine Up.drewN ?_ _) | (with_reducible refine Up.call ?_ (by with_reducible assumption)))))) HB.out.pos (by have := HB.out.few; omega)).mono ?_); rintro e w5 ⟨x5, v5, rfl, rfl, hv5, hb5⟩ <;> (obtain ⟨A5, c5, rfl, hrd5, hc5⟩ := OwnS.rd hv5; have Hrd5 := hid hrd5; have Hc5 := hid hc5; have Hn5 := hid (fun b o (e : A5 = some ⟨b, o, none⟩) => (OwnS.lt hv5 b (by rw [e]; rfl)).1); clear hv5 hrd5 hc5; obtain ⟨k5, k6⟩ := bcell hb5)) <;> (have hle := Up.le hb5; (try simp only [World.size_alloc, World.size_setCell, World.size_drew, World.heap_drewN] at hle); clear hle)))
    go_loopw [4, 26] (fun u i wr => ∃ (k : Nat) (A' : Option Addr) (c' : Nat), k ≤ l.all.length ∧ i = .int .i64 k ∧ u = .slice A' (hullG x (l.all.take k)).length c' ∧ Hid (RdS wr A' (hullG x (l.all.take k)) ∧ (hullG x (l.all.take k)).length ≤ c' ∧ ∀ b o, A' = some ⟨b, o, none⟩ → w.heap.size ≤ b) ∧ Up w wr) (fun _ i _ => l.all.length - (intOf i).toNat)
    case atStart => exact ⟨0, A5, c5, by omega, rfl, rfl, ⟨Hrd5.out, Hc5.out, Hn5.out⟩, by (repeat (first | (with_reducible exact Up.refl _) | (with_reducible assumption) | (with_reducible refine Up.alloc ?_ _) | (with_reducible refine Up.drew ?_) | ((with_reducible refine Up.set ?_ ?_ _); rotate_left; focus (first | omega | (simp; done) | (simp; omega))) | (with_reducible refine Up.drewN ?_ _) | (with_reducible refine Up.call ?_ (by with_reducible assumption))))⟩
    case round =>
      obtain ⟨k, A', c', hk, rfl, rfl, HR, hU⟩ := hrel
      have gr := (bcell hU).1
      have hle := hU.le
      have h20 := Hf.out
      by_cases hlt : k < l.all.length
      · obtain ⟨A2, c2, q1, q2, q3, q4, -⟩ := hkk2.out k hlt
        have j1 := (gr _ _ lb).trans q1
        have hkm : (k : Int) < (l.all.length : Int) := by omega
        have hk0 : (0 : Int) ≤ (k : Int) := by omega
        have hk9 : (k : Int) < 20 := by omega
        have hdk : decide ((k : Int) < (l.all.length : Int)) = true := by simp; omega
        have lb2 : b < wr.heap.size := by omega
        have Hta := hid (hull_take (x := x) hlt)
        have Hyl := hid (HY.out k hlt)
        have Hnl := hid (HN.out k)
        generalize l.all[k]?.getD [] = y at *
        generalize hullG x (l.all.take k) = z at *
        have Hy := hid q2; have Hlt := hid hlt
        clear q1 q2 q3 q4 gr hlt
        go_wp2_with (first
                        | ((go_at_call 43; (with_reducible refine (bboth_own _ _ z y _ _ _ (HR.out.1.up (by (repeat (first | (with_reducible exact Up.refl _) | (with_reducible assumption) | (with_reducible refine Up.alloc ?_ _) | (with_reducible refine Up.drew ?_) | ((with_reducible refine Up.set ?_ ?_ _); rotate_left; focus (first | omega | (simp; done) | (simp; omega))) | (with_reducible refine Up.drewN ?_ _) | (with_reducible refine Up.call ?_ (by with_reducible assumption)))))) (Hy.out.up (by (repeat (first | (with_reducible exact Up.refl _) | (with_reducible assumption) | (with_reducible refine Up.alloc ?_ _) | (with_reducible refine Up.drew ?_) | ((with_reducible refine Up.set ?_ ?_ _); rotate_left; focus (first | omega | (simp; done) | (simp; omega))) | (with_reducible refine Up.drewN ?_ _) | (with_reducible refine Up.call ?_ (by with_reducible assumption)))))) (by rw [Hnl.out, Hyl.out]) (by rw [Hnl.out]; have := HB.out.few; omega)).mono ?_); rintro e w6 ⟨x6, v6, rfl, rfl, hv6, hb6⟩ <;> (have hvn := OwnS.lt hv6; obtain ⟨A6, c6, rfl, hrd6, hc6⟩ := OwnS.rd hv6; have Hrd6 := hid hrd6; have Hc6 := hid hc6; have Hn6 := hid (fun b o (e : A6 = some ⟨b, o, none⟩) => Nat.le_trans hU.le (hvn b (by rw [e]; rfl)).1); clear hrd6 hc6 hvn)) <;> (have hle := Up.le hb6; (try simp only [World.size_alloc, World.size_setCell, World.size_drew, World.heap_drewN] at hle); clear hle)))
        go_roundw
        case rel =>
          refine ⟨k + 1, A6, c6, by have := Hlt.out; omega, by go_num, by rw [Hta.out], ?_, by (repeat (first | (with_reducible exact Up.refl _) | (with_reducible assumption) | (with_reducible refine Up.alloc ?_ _) | (with_reducible refine Up.drew ?_) | ((with_reducible refine Up.set ?_ ?_ _); rotate_left; focus (first | omega | (simp; done) | (simp; omega))) | (with_reducible refine Up.drewN ?_ _) | (with_reducible refine Up.call ?_ (by with_reducible assumption))))⟩
          show _ ∧ _
          rw [Hta.out]
          exact ⟨Hrd6.out, Hc6.out, Hn6.out⟩
        case measure => have := Hlt.out; simp [intOf]; omega
      · obtain rfl : k = l.all.length := by omega
        clear gr
        go_wp2
        go_ret2
        have e : hullF (x :: r) = .ok (hullG x (l.all.take l.all.length)) := by rw [List.take_length, HL.out]; rfl
        exact RetR.mk _ hU e (rel := boxR w.heap.size) ⟨A', c', rfl, HR.out.1, HR.out.2.1, HR.out.2.2⟩
end Go.Proofs.YtopgjbjpmnlldaaDoor
