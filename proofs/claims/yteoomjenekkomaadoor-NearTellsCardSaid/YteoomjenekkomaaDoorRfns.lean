/- The walks of the reference's Steep. -/
import Derived.Test.YteoomjenekkomaaDoorNear
import Derived.Test.YteoomjenekkomaaDoorRff
import Derived.BigRegion
import Derived.RegionTactic

set_option linter.unusedVariables false
set_option linter.unusedSimpArgs false
namespace Go.Proofs.YteoomjenekkomaaDoor
open Go.RowKit

/-- A slice of terms, with a number. -/
def tlN (w : World) : Except Nat (List Tm) → Value → Prop
  | .ok l, v => ∃ A c, v = .tuple #[.slice A l.length c, .int .i64 0] ∧ RdT w A l ∧ l.length ≤ c
  | .error n, v => v = .tuple #[.slice none 0 0, .int .i64 n]
theorem tlN_ok {w : World} {l : List Tm} {v : Value} (h : tlN w (.ok l) v) : ∃ A c, v = .tuple #[.slice A l.length c, .int .i64 0] ∧ RdT w A l ∧ l.length ≤ c := h
theorem tlN_error {w : World} {n : Nat} {v : Value} (h : tlN w (.error n) v) : v = .tuple #[.slice none 0 0, .int .i64 n] := h
theorem OwnT.rdN {w : World} {base : Nat} {A : Option Addr} {n c : Nat} {l : List Tm} (h : OwnT w base (.slice A n c) l) : tlN w (.ok l) (.tuple #[.slice A n c, .int .i64 0]) := by
  obtain ⟨A', c', hv, h1, h2⟩ := h.rd
  injection hv with e1 e2 e3
  subst e1; subst e2; subst e3
  exact ⟨_, _, rfl, h1, h2⟩
set_option maxRecDepth 100000 in
set_option maxHeartbeats 4000000 in
theorem rsteep_any0 (f : List Tm) (A : Option Addr) (c : Nat) (w : World) (hf : RdT w A f) (hm : f.length ≤ 1000) (ht : ∀ t ∈ f, (∀ i, 0 ≤ t.time i ∧ t.time i ≤ 3) ∧ M t.by_) :
    Calls Tryd.prog 39 #[.slice A f.length c, .int .i64 0] w (RetR tlN (nsteepG 0 f) w) := by
  have Hf := hid hf; have Hm := hid hm; have HT := hid ht
  obtain ⟨i0, hi0, hz0, hz1, hz2⟩ := info_parts Tryd.infoTerm
  rw [← preT_nil (nsteepG 0 f)]
  clear hf hm ht
  go_enter Tryd.func39, Tryd.ntmps39
  go_wp2
  go_loopw [6, 7] (fun v i wr => ∃ (k : Nat) (L : List Tm), k ≤ f.length ∧ i = .int .i64 k ∧ Hid (preT [] (nsteepG 0 f) = preT L (nsteepG 0 (f.drop k))) ∧ Hid (L.length ≤ k) ∧ OwnT wr w.heap.size v L ∧ Up w wr) (fun _ i _ => f.length - (intOf i).toNat)
  case atStart => exact ⟨0, [], by omega, rfl, rfl, Nat.le_refl 0, OwnT.nil _ _, Up.refl _⟩
  case round =>
    obtain ⟨k, L, hk, rfl, H, HL, hown, hU⟩ := hrel
    have gr := (bcell hU).1
    have hle := hU.le
    by_cases hlt : k < f.length
    · obtain ⟨b1, o1, rfl, lb, cc⟩ := (Hf.out).at (by omega)
      obtain ⟨q1, q2, q3, q4⟩ := cc k hlt
      have j1 := (gr _ _ lb).trans q1
      have j2 := (gr _ _ lb).trans q2
      have j3 := (gr _ _ lb).trans q3
      have j4 := (gr _ _ lb).trans q4
      have _ : b1 < wr.heap.size := by omega
      have Hdr := hid (tdrop f k hlt)
      have hT := HT.out (f[k]?.getD default) (by rw [List.getElem?_eq_getElem hlt]; exact List.getElem_mem hlt)
      have Hlt := hid hlt
      have hdk : decide ((k : Int) < (f.length : Int)) = true := by simp; omega
      have hk0 : (0 : Int) ≤ (k : Int) := by omega
      have hkb : (k : Int) < (f.length : Int) := by omega
      have hk9 : (k : Int) < 1000 := by have := Hm.out; omega
      have HL4 := hid (show L.length ≤ 1000 by have := HL.out; have := Hm.out; omega)
      generalize f[k]?.getD default = t at *
      have h0 : 0 ≤ t.t0 := (hT.1 0).1
      have h3 : t.t0 ≤ 3 := (hT.1 0).2
      obtain ⟨hb1, hb2⟩ := mulT_bd hT.2 h0 h3
      have Hown := hid hown
      clear cc q1 q2 q3 q4 gr hlt hown hT
      by_cases hz : t.t0 = 0
      · have Hz := hid hz
        have e0 : (t.t0 == 0) = true := beq_iff_eq.2 hz
        clear hz hb1 hb2
        go_wp2
        go_roundw
        case rel =>
          have hUa : Up wr (wr.alloc (Obj.cells #[.int .i64 t.by_, .int .i64 t.t0, .int .i64 t.t1, .int .i64 t.t2] 95)) := by (repeat (first | (with_reducible exact Up.refl _) | (with_reducible assumption) | (with_reducible refine Up.alloc ?_ _) | (with_reducible refine Up.drew ?_) | ((with_reducible refine Up.set ?_ ?_ _); rotate_left; focus (first | omega | (simp; done) | (simp; omega))) | (with_reducible refine Up.drewN ?_ _) | (with_reducible refine Up.call ?_ (by with_reducible assumption))))
          refine ⟨k + 1, L, by have := Hlt.out; omega, by go_num, ?_, ?_, Hown.out.up hUa, hU.call hUa⟩
          · show _ = _
            rw [H.out, Hdr.out]; exact steepG_skip Hz.out
          · have := HL.out
            show _ ≤ _
            omega
        case measure => have := Hlt.out; simp [intOf]; omega
      · have Hz := hid hz
        have e0 : (t.t0 == 0) = false := beq_false_of_ne hz
        have h1 : 1 ≤ t.t0 := by omega
        clear hz
        cases hmm : mayB (t.by_ * t.t0) with
        | false =>
          have Hmm := hid hmm; clear hmm
          go_wp2_with fail
          go_region
          all_goals
            go_wp2_with (first
              | ((go_at_call 80; refine (rmay_any _ _).mono ?_; rintro e w' ⟨rfl, rfl⟩); rw [Hmm.out]))
            go_ret2
            refine RetR.mk (.error 4) ?_ ?_ (rel := tlN) rfl
            · (repeat (first | (with_reducible exact Up.refl _) | (with_reducible assumption) | (with_reducible refine Up.alloc ?_ _) | (with_reducible refine Up.drew ?_) | ((with_reducible refine Up.set ?_ ?_ _); rotate_left; focus (first | omega | (simp; done) | (simp; omega))) | (with_reducible refine Up.drewN ?_ _) | (with_reducible refine Up.call ?_ (by with_reducible assumption))))
            · rw [H.out, Hdr.out]; exact steepG_bad Hz.out (mayB_false.1 Hmm.out)
        | true =>
          have Hmm := hid hmm; clear hmm
          go_wp2_with fail
          go_region
          all_goals
            go_wp2_with (first
              | ((go_at_call 80; refine (rmay_any _ _).mono ?_; rintro e w' ⟨rfl, rfl⟩); rw [Hmm.out])
              | (at_builtin; go_loud (refine wpList_append_own_at _ rfl (.tmp 45) (.tmp 47) _ rfl w.heap.size 95 i0 (.agg #[.int .i64 0, .int .i64 0, .int .i64 0, .int .i64 0]) 4 32 Tryd.underlying67 hi0 hz0 hz1 hz2 rfl (by decide) _ _ _ rfl (Hown.out.up (by (repeat (first | (with_reducible exact Up.refl _) | (with_reducible assumption) | (with_reducible refine Up.alloc ?_ _) | (with_reducible refine Up.drew ?_) | ((with_reducible refine Up.set ?_ ?_ _); rotate_left; focus (first | omega | (simp; done) | (simp; omega))) | (with_reducible refine Up.drewN ?_ _) | (with_reducible refine Up.call ?_ (by with_reducible assumption)))))) ⟨wr.heap.size + 1, 0, none⟩ 1 1 [.int .i64 (t.by_ * t.t0), .int .i64 (t.t0 - 1), .int .i64 (t.t1), .int .i64 (t.t2)] rfl rfl (cell_four_at _ _ _ _ _ _ (by simp)) (by simp [Value.oneCell']) (by have := HL4.out; unfold maxLen; omega) (by have := HL4.out; omega) (by simp; omega) ?_); intro v8 w5 own8 g8 _ at8))
            go_roundw
            case rel =>
              refine ⟨k + 1, L ++ [t.dec 0], by have := Hlt.out; omega, by go_num, ?_, ?_, OwnT.snoc own8, ?_⟩
              · show _ = _
                rw [H.out, Hdr.out]; exact steepG_go Hz.out (mayB_true.1 Hmm.out)
              · have := HL.out
                show _ ≤ _
                simp; omega
              · refine Below.grown (a := w) (B := w.heap.size) ?_ g8 ?_ (fun j hj => (Hown.out.lt j hj).1)
                · (show Up w _; (repeat (first | (with_reducible exact Up.refl _) | (with_reducible assumption) | (with_reducible refine Up.alloc ?_ _) | (with_reducible refine Up.drew ?_) | ((with_reducible refine Up.set ?_ ?_ _); rotate_left; focus (first | omega | (simp; done) | (simp; omega))) | (with_reducible refine Up.drewN ?_ _) | (with_reducible refine Up.call ?_ (by with_reducible assumption)))))
                · simp; omega
            case measure => have := Hlt.out; simp [intOf]; omega
    · obtain rfl : k = f.length := by omega
      obtain ⟨A', c', hv⟩ := hown.shape
      subst hv
      have Hown := hid hown
      clear hown gr
      go_wp2
      go_ret2
      refine RetR.mk (.ok L) hU ?_ (rel := tlN) Hown.out.rdN
      rw [H.out, List.drop_length]
      simp [nsteepG, preT]
set_option maxRecDepth 100000 in
set_option maxHeartbeats 4000000 in
theorem rsteep_any1 (f : List Tm) (A : Option Addr) (c : Nat) (w : World) (hf : RdT w A f) (hm : f.length ≤ 1000) (ht : ∀ t ∈ f, (∀ i, 0 ≤ t.time i ∧ t.time i ≤ 3) ∧ M t.by_) :
    Calls Tryd.prog 39 #[.slice A f.length c, .int .i64 1] w (RetR tlN (nsteepG 1 f) w) := by
  have Hf := hid hf; have Hm := hid hm; have HT := hid ht
  obtain ⟨i0, hi0, hz0, hz1, hz2⟩ := info_parts Tryd.infoTerm
  rw [← preT_nil (nsteepG 1 f)]
  clear hf hm ht
  go_enter Tryd.func39, Tryd.ntmps39
  go_wp2
  go_loopw [6, 7] (fun v i wr => ∃ (k : Nat) (L : List Tm), k ≤ f.length ∧ i = .int .i64 k ∧ Hid (preT [] (nsteepG 1 f) = preT L (nsteepG 1 (f.drop k))) ∧ Hid (L.length ≤ k) ∧ OwnT wr w.heap.size v L ∧ Up w wr) (fun _ i _ => f.length - (intOf i).toNat)
  case atStart => exact ⟨0, [], by omega, rfl, rfl, Nat.le_refl 0, OwnT.nil _ _, Up.refl _⟩
  case round =>
    obtain ⟨k, L, hk, rfl, H, HL, hown, hU⟩ := hrel
    have gr := (bcell hU).1
    have hle := hU.le
    by_cases hlt : k < f.length
    · obtain ⟨b1, o1, rfl, lb, cc⟩ := (Hf.out).at (by omega)
      obtain ⟨q1, q2, q3, q4⟩ := cc k hlt
      have j1 := (gr _ _ lb).trans q1
      have j2 := (gr _ _ lb).trans q2
      have j3 := (gr _ _ lb).trans q3
      have j4 := (gr _ _ lb).trans q4
      have _ : b1 < wr.heap.size := by omega
      have Hdr := hid (tdrop f k hlt)
      have hT := HT.out (f[k]?.getD default) (by rw [List.getElem?_eq_getElem hlt]; exact List.getElem_mem hlt)
      have Hlt := hid hlt
      have hdk : decide ((k : Int) < (f.length : Int)) = true := by simp; omega
      have hk0 : (0 : Int) ≤ (k : Int) := by omega
      have hkb : (k : Int) < (f.length : Int) := by omega
      have hk9 : (k : Int) < 1000 := by have := Hm.out; omega
      have HL4 := hid (show L.length ≤ 1000 by have := HL.out; have := Hm.out; omega)
      generalize f[k]?.getD default = t at *
      have h0 : 0 ≤ t.t1 := (hT.1 1).1
      have h3 : t.t1 ≤ 3 := (hT.1 1).2
      obtain ⟨hb1, hb2⟩ := mulT_bd hT.2 h0 h3
      have Hown := hid hown
      clear cc q1 q2 q3 q4 gr hlt hown hT
      by_cases hz : t.t1 = 0
      · have Hz := hid hz
        have e0 : (t.t1 == 0) = true := beq_iff_eq.2 hz
        clear hz hb1 hb2
        go_wp2
        go_roundw
        case rel =>
          have hUa : Up wr (wr.alloc (Obj.cells #[.int .i64 t.by_, .int .i64 t.t0, .int .i64 t.t1, .int .i64 t.t2] 95)) := by (repeat (first | (with_reducible exact Up.refl _) | (with_reducible assumption) | (with_reducible refine Up.alloc ?_ _) | (with_reducible refine Up.drew ?_) | ((with_reducible refine Up.set ?_ ?_ _); rotate_left; focus (first | omega | (simp; done) | (simp; omega))) | (with_reducible refine Up.drewN ?_ _) | (with_reducible refine Up.call ?_ (by with_reducible assumption))))
          refine ⟨k + 1, L, by have := Hlt.out; omega, by go_num, ?_, ?_, Hown.out.up hUa, hU.call hUa⟩
          · show _ = _
            rw [H.out, Hdr.out]; exact steepG_skip Hz.out
          · have := HL.out
            show _ ≤ _
            omega
        case measure => have := Hlt.out; simp [intOf]; omega
      · have Hz := hid hz
        have e0 : (t.t1 == 0) = false := beq_false_of_ne hz
        have h1 : 1 ≤ t.t1 := by omega
        clear hz
        cases hmm : mayB (t.by_ * t.t1) with
        | false =>
          have Hmm := hid hmm; clear hmm
          go_wp2_with fail
          go_region
          all_goals
            go_wp2_with (first
              | ((go_at_call 80; refine (rmay_any _ _).mono ?_; rintro e w' ⟨rfl, rfl⟩); rw [Hmm.out]))
            go_ret2
            refine RetR.mk (.error 4) ?_ ?_ (rel := tlN) rfl
            · (repeat (first | (with_reducible exact Up.refl _) | (with_reducible assumption) | (with_reducible refine Up.alloc ?_ _) | (with_reducible refine Up.drew ?_) | ((with_reducible refine Up.set ?_ ?_ _); rotate_left; focus (first | omega | (simp; done) | (simp; omega))) | (with_reducible refine Up.drewN ?_ _) | (with_reducible refine Up.call ?_ (by with_reducible assumption))))
            · rw [H.out, Hdr.out]; exact steepG_bad Hz.out (mayB_false.1 Hmm.out)
        | true =>
          have Hmm := hid hmm; clear hmm
          go_wp2_with fail
          go_region
          all_goals
            go_wp2_with (first
              | ((go_at_call 80; refine (rmay_any _ _).mono ?_; rintro e w' ⟨rfl, rfl⟩); rw [Hmm.out])
              | (at_builtin; go_loud (refine wpList_append_own_at _ rfl (.tmp 45) (.tmp 47) _ rfl w.heap.size 95 i0 (.agg #[.int .i64 0, .int .i64 0, .int .i64 0, .int .i64 0]) 4 32 Tryd.underlying67 hi0 hz0 hz1 hz2 rfl (by decide) _ _ _ rfl (Hown.out.up (by (repeat (first | (with_reducible exact Up.refl _) | (with_reducible assumption) | (with_reducible refine Up.alloc ?_ _) | (with_reducible refine Up.drew ?_) | ((with_reducible refine Up.set ?_ ?_ _); rotate_left; focus (first | omega | (simp; done) | (simp; omega))) | (with_reducible refine Up.drewN ?_ _) | (with_reducible refine Up.call ?_ (by with_reducible assumption)))))) ⟨wr.heap.size + 1, 0, none⟩ 1 1 [.int .i64 (t.by_ * t.t1), .int .i64 (t.t0), .int .i64 (t.t1 - 1), .int .i64 (t.t2)] rfl rfl (cell_four_at _ _ _ _ _ _ (by simp)) (by simp [Value.oneCell']) (by have := HL4.out; unfold maxLen; omega) (by have := HL4.out; omega) (by simp; omega) ?_); intro v8 w5 own8 g8 _ at8))
            go_roundw
            case rel =>
              refine ⟨k + 1, L ++ [t.dec 1], by have := Hlt.out; omega, by go_num, ?_, ?_, OwnT.snoc own8, ?_⟩
              · show _ = _
                rw [H.out, Hdr.out]; exact steepG_go Hz.out (mayB_true.1 Hmm.out)
              · have := HL.out
                show _ ≤ _
                simp; omega
              · refine Below.grown (a := w) (B := w.heap.size) ?_ g8 ?_ (fun j hj => (Hown.out.lt j hj).1)
                · (show Up w _; (repeat (first | (with_reducible exact Up.refl _) | (with_reducible assumption) | (with_reducible refine Up.alloc ?_ _) | (with_reducible refine Up.drew ?_) | ((with_reducible refine Up.set ?_ ?_ _); rotate_left; focus (first | omega | (simp; done) | (simp; omega))) | (with_reducible refine Up.drewN ?_ _) | (with_reducible refine Up.call ?_ (by with_reducible assumption)))))
                · simp; omega
            case measure => have := Hlt.out; simp [intOf]; omega
    · obtain rfl : k = f.length := by omega
      obtain ⟨A', c', hv⟩ := hown.shape
      subst hv
      have Hown := hid hown
      clear hown gr
      go_wp2
      go_ret2
      refine RetR.mk (.ok L) hU ?_ (rel := tlN) Hown.out.rdN
      rw [H.out, List.drop_length]
      simp [nsteepG, preT]
set_option maxRecDepth 100000 in
set_option maxHeartbeats 4000000 in
theorem rsteep_any2 (f : List Tm) (A : Option Addr) (c : Nat) (w : World) (hf : RdT w A f) (hm : f.length ≤ 1000) (ht : ∀ t ∈ f, (∀ i, 0 ≤ t.time i ∧ t.time i ≤ 3) ∧ M t.by_) :
    Calls Tryd.prog 39 #[.slice A f.length c, .int .i64 2] w (RetR tlN (nsteepG 2 f) w) := by
  have Hf := hid hf; have Hm := hid hm; have HT := hid ht
  obtain ⟨i0, hi0, hz0, hz1, hz2⟩ := info_parts Tryd.infoTerm
  rw [← preT_nil (nsteepG 2 f)]
  clear hf hm ht
  go_enter Tryd.func39, Tryd.ntmps39
  go_wp2
  go_loopw [6, 7] (fun v i wr => ∃ (k : Nat) (L : List Tm), k ≤ f.length ∧ i = .int .i64 k ∧ Hid (preT [] (nsteepG 2 f) = preT L (nsteepG 2 (f.drop k))) ∧ Hid (L.length ≤ k) ∧ OwnT wr w.heap.size v L ∧ Up w wr) (fun _ i _ => f.length - (intOf i).toNat)
  case atStart => exact ⟨0, [], by omega, rfl, rfl, Nat.le_refl 0, OwnT.nil _ _, Up.refl _⟩
  case round =>
    obtain ⟨k, L, hk, rfl, H, HL, hown, hU⟩ := hrel
    have gr := (bcell hU).1
    have hle := hU.le
    by_cases hlt : k < f.length
    · obtain ⟨b1, o1, rfl, lb, cc⟩ := (Hf.out).at (by omega)
      obtain ⟨q1, q2, q3, q4⟩ := cc k hlt
      have j1 := (gr _ _ lb).trans q1
      have j2 := (gr _ _ lb).trans q2
      have j3 := (gr _ _ lb).trans q3
      have j4 := (gr _ _ lb).trans q4
      have _ : b1 < wr.heap.size := by omega
      have Hdr := hid (tdrop f k hlt)
      have hT := HT.out (f[k]?.getD default) (by rw [List.getElem?_eq_getElem hlt]; exact List.getElem_mem hlt)
      have Hlt := hid hlt
      have hdk : decide ((k : Int) < (f.length : Int)) = true := by simp; omega
      have hk0 : (0 : Int) ≤ (k : Int) := by omega
      have hkb : (k : Int) < (f.length : Int) := by omega
      have hk9 : (k : Int) < 1000 := by have := Hm.out; omega
      have HL4 := hid (show L.length ≤ 1000 by have := HL.out; have := Hm.out; omega)
      generalize f[k]?.getD default = t at *
      have h0 : 0 ≤ t.t2 := (hT.1 2).1
      have h3 : t.t2 ≤ 3 := (hT.1 2).2
      obtain ⟨hb1, hb2⟩ := mulT_bd hT.2 h0 h3
      have Hown := hid hown
      clear cc q1 q2 q3 q4 gr hlt hown hT
      by_cases hz : t.t2 = 0
      · have Hz := hid hz
        have e0 : (t.t2 == 0) = true := beq_iff_eq.2 hz
        clear hz hb1 hb2
        go_wp2
        go_roundw
        case rel =>
          have hUa : Up wr (wr.alloc (Obj.cells #[.int .i64 t.by_, .int .i64 t.t0, .int .i64 t.t1, .int .i64 t.t2] 95)) := by (repeat (first | (with_reducible exact Up.refl _) | (with_reducible assumption) | (with_reducible refine Up.alloc ?_ _) | (with_reducible refine Up.drew ?_) | ((with_reducible refine Up.set ?_ ?_ _); rotate_left; focus (first | omega | (simp; done) | (simp; omega))) | (with_reducible refine Up.drewN ?_ _) | (with_reducible refine Up.call ?_ (by with_reducible assumption))))
          refine ⟨k + 1, L, by have := Hlt.out; omega, by go_num, ?_, ?_, Hown.out.up hUa, hU.call hUa⟩
          · show _ = _
            rw [H.out, Hdr.out]; exact steepG_skip Hz.out
          · have := HL.out
            show _ ≤ _
            omega
        case measure => have := Hlt.out; simp [intOf]; omega
      · have Hz := hid hz
        have e0 : (t.t2 == 0) = false := beq_false_of_ne hz
        have h1 : 1 ≤ t.t2 := by omega
        clear hz
        cases hmm : mayB (t.by_ * t.t2) with
        | false =>
          have Hmm := hid hmm; clear hmm
          go_wp2_with fail
          go_region
          all_goals
            go_wp2_with (first
              | ((go_at_call 80; refine (rmay_any _ _).mono ?_; rintro e w' ⟨rfl, rfl⟩); rw [Hmm.out]))
            go_ret2
            refine RetR.mk (.error 4) ?_ ?_ (rel := tlN) rfl
            · (repeat (first | (with_reducible exact Up.refl _) | (with_reducible assumption) | (with_reducible refine Up.alloc ?_ _) | (with_reducible refine Up.drew ?_) | ((with_reducible refine Up.set ?_ ?_ _); rotate_left; focus (first | omega | (simp; done) | (simp; omega))) | (with_reducible refine Up.drewN ?_ _) | (with_reducible refine Up.call ?_ (by with_reducible assumption))))
            · rw [H.out, Hdr.out]; exact steepG_bad Hz.out (mayB_false.1 Hmm.out)
        | true =>
          have Hmm := hid hmm; clear hmm
          go_wp2_with fail
          go_region
          all_goals
            go_wp2_with (first
              | ((go_at_call 80; refine (rmay_any _ _).mono ?_; rintro e w' ⟨rfl, rfl⟩); rw [Hmm.out])
              | (at_builtin; go_loud (refine wpList_append_own_at _ rfl (.tmp 45) (.tmp 47) _ rfl w.heap.size 95 i0 (.agg #[.int .i64 0, .int .i64 0, .int .i64 0, .int .i64 0]) 4 32 Tryd.underlying67 hi0 hz0 hz1 hz2 rfl (by decide) _ _ _ rfl (Hown.out.up (by (repeat (first | (with_reducible exact Up.refl _) | (with_reducible assumption) | (with_reducible refine Up.alloc ?_ _) | (with_reducible refine Up.drew ?_) | ((with_reducible refine Up.set ?_ ?_ _); rotate_left; focus (first | omega | (simp; done) | (simp; omega))) | (with_reducible refine Up.drewN ?_ _) | (with_reducible refine Up.call ?_ (by with_reducible assumption)))))) ⟨wr.heap.size + 1, 0, none⟩ 1 1 [.int .i64 (t.by_ * t.t2), .int .i64 (t.t0), .int .i64 (t.t1), .int .i64 (t.t2 - 1)] rfl rfl (cell_four_at _ _ _ _ _ _ (by simp)) (by simp [Value.oneCell']) (by have := HL4.out; unfold maxLen; omega) (by have := HL4.out; omega) (by simp; omega) ?_); intro v8 w5 own8 g8 _ at8))
            go_roundw
            case rel =>
              refine ⟨k + 1, L ++ [t.dec 2], by have := Hlt.out; omega, by go_num, ?_, ?_, OwnT.snoc own8, ?_⟩
              · show _ = _
                rw [H.out, Hdr.out]; exact steepG_go Hz.out (mayB_true.1 Hmm.out)
              · have := HL.out
                show _ ≤ _
                simp; omega
              · refine Below.grown (a := w) (B := w.heap.size) ?_ g8 ?_ (fun j hj => (Hown.out.lt j hj).1)
                · (show Up w _; (repeat (first | (with_reducible exact Up.refl _) | (with_reducible assumption) | (with_reducible refine Up.alloc ?_ _) | (with_reducible refine Up.drew ?_) | ((with_reducible refine Up.set ?_ ?_ _); rotate_left; focus (first | omega | (simp; done) | (simp; omega))) | (with_reducible refine Up.drewN ?_ _) | (with_reducible refine Up.call ?_ (by with_reducible assumption)))))
                · simp; omega
            case measure => have := Hlt.out; simp [intOf]; omega
    · obtain rfl : k = f.length := by omega
      obtain ⟨A', c', hv⟩ := hown.shape
      subst hv
      have Hown := hid hown
      clear hown gr
      go_wp2
      go_ret2
      refine RetR.mk (.ok L) hU ?_ (rel := tlN) Hown.out.rdN
      rw [H.out, List.drop_length]
      simp [nsteepG, preT]
theorem rtsteep_any (f : List Tm) (A : Option Addr) (c k : Nat) (w : World) (hf : RdT w A f) (hm : f.length ≤ 1000) (ht : ∀ t ∈ f, (∀ i, 0 ≤ t.time i ∧ t.time i ≤ 3) ∧ M t.by_) (hk : k < 3) :
    Calls Tryd.prog 39 #[.slice A f.length c, .int .i64 (k : Int)] w (RetR tlN (nsteepG k f) w) := by
  match k, hk with
  | 0, _ => exact rsteep_any0 f A c w hf hm ht
  | 1, _ => exact rsteep_any1 f A c w hf hm ht
  | 2, _ => exact rsteep_any2 f A c w hf hm ht
end Go.Proofs.YteoomjenekkomaaDoor
