/- Lists of boxes, of lists, and of terms that are the same are found so. -/
import Derived.Test.YteoomjenekkomaaDoorLen
import Derived.Test.YteoomjenekkomaaDoorRfbb
import Derived.Deep.RegionLaw
import Derived.ChangeKeysEq

set_option linter.unusedVariables false
set_option linter.unusedSimpArgs false
namespace Go.Proofs.YteoomjenekkomaaDoor
open Go.RowKit

theorem RdR.upS {w w' : World} {A : Option Addr} {l : List (List Sp)} (h : RdR RdS w A l) (hu : Up w w') : RdR RdS w' A l := RdR.up (R := RdS) RdS.up h hu
theorem RdR.upI {w w' : World} {A : Option Addr} {l : List (List Int)} (h : RdR RdI w A l) (hu : Up w w') : RdR RdI w' A l := RdR.up (R := RdI) RdI.up h hu

set_option maxRecDepth 100000 in
set_option maxHeartbeats 4000000 in
theorem sboxes_self (A B : Option Addr) (l : List (List Sp)) (c d : Nat) (w : World) (ha : RdR RdS w A l) (hb : RdR RdS w B l) (hm : l.length ≤ 1000) (he : ∀ x ∈ l, x.length ≤ 9223372036854775807) :
    Calls Tryd.prog 18 #[.slice A l.length c, .slice B l.length d] w fun ev w' => ev = .returned (.bool true) ∧ Up w w' := by
  have Ha := hid ha; have Hb := hid hb; have Hm := hid hm; have He := hid he
  have hd : ((l.length : Int) != (l.length : Int)) = false := by simp
  clear ha hb hm he
  go_enter Tryd.func18, Tryd.ntmps18
  go_wp2
  go_loopw [5] (fun i wr => ∃ k : Nat, k ≤ l.length ∧ i = .int .i64 k ∧ Up w wr) (fun i _ => l.length - (intOf i).toNat)
  case atStart => exact ⟨0, by omega, rfl, Up.refl _⟩
  case round =>
    obtain ⟨k, hk, rfl, hU⟩ := hrel
    have gr := (bcell hU).1
    have hle := hU.le
    by_cases hlt : k < l.length
    · obtain ⟨b1, o1, rfl, l1, cc1⟩ := (Ha.out).at (by omega)
      obtain ⟨b2, o2, rfl, l2, cc2⟩ := (Hb.out).at (by omega)
      obtain ⟨A3, c3, q1, q2, q3⟩ := cc1 k hlt
      obtain ⟨A4, c4, p1, p2, p3⟩ := cc2 k hlt
      have j1 := (gr _ _ l1).trans q1
      have j2 := (gr _ _ l2).trans p1
      have _ : b1 < wr.heap.size := by omega
      have _ : b2 < wr.heap.size := by omega
      have Hq3 := hid q3; have Hp3 := hid p3
      have Hx := hid (show (l[k]?.getD []).length ≤ 9223372036854775807 by rw [List.getElem?_eq_getElem hlt]; exact He.out _ (List.getElem_mem hlt))
      generalize l[k]?.getD [] = x at *
      have hdk : decide ((k : Int) < (l.length : Int)) = true := by simp; omega
      have hk0 : (0 : Int) ≤ (k : Int) := by omega
      have hkm : (k : Int) < (l.length : Int) := by omega
      have hk9 : (k : Int) < 1000 := by have := Hm.out; omega
      have Hlt := hid hlt
      clear gr cc1 cc2 q1 q2 q3 p1 p2 p3 hlt
      go_wp2_with fail
      go_region_law (go_simp; (go_at_call 23; refine (sbox_self _ _ x _ _ _ (Hq3.out.up (hU.call (by (repeat (first | (with_reducible exact Up.refl _) | (with_reducible assumption) | (with_reducible refine Up.alloc ?_ _) | (with_reducible refine Up.drew ?_) | ((with_reducible refine Up.set ?_ ?_ _); rotate_left; focus (first | omega | (simp; done) | (simp; omega))) | (with_reducible refine Up.drewN ?_ _) | (with_reducible refine Up.call ?_ (by with_reducible assumption))))))) (Hp3.out.up (hU.call (by (repeat (first | (with_reducible exact Up.refl _) | (with_reducible assumption) | (with_reducible refine Up.alloc ?_ _) | (with_reducible refine Up.drew ?_) | ((with_reducible refine Up.set ?_ ?_ _); rotate_left; focus (first | omega | (simp; done) | (simp; omega))) | (with_reducible refine Up.drewN ?_ _) | (with_reducible refine Up.call ?_ (by with_reducible assumption))))))) Hx.out).mono ?_; rintro e w4 ⟨rfl, hb4⟩))
      all_goals go_wp2
      all_goals
        go_roundw
        case rel => exact ⟨k + 1, by have := Hlt.out; omega, by go_num, hU.call (by (repeat (first | (with_reducible exact Up.refl _) | (with_reducible assumption) | (with_reducible refine Up.alloc ?_ _) | (with_reducible refine Up.drew ?_) | ((with_reducible refine Up.set ?_ ?_ _); rotate_left; focus (first | omega | (simp; done) | (simp; omega))) | (with_reducible refine Up.drewN ?_ _) | (with_reducible refine Up.call ?_ (by with_reducible assumption)))))⟩
        case measure => have := Hlt.out; simp [intOf]; omega
    · obtain rfl : k = l.length := by omega
      clear gr
      go_wp2
      go_ret
      exact ⟨rfl, hU⟩
set_option maxRecDepth 100000 in
set_option maxHeartbeats 4000000 in
theorem slists_self (A B : Option Addr) (l : List (List Int)) (c d : Nat) (w : World) (ha : RdR RdI w A l) (hb : RdR RdI w B l) (hm : l.length ≤ 1000) (he : ∀ x ∈ l, x.length ≤ 9223372036854775807) :
    Calls Tryd.prog 54 #[.slice A l.length c, .slice B l.length d] w fun ev w' => ev = .returned (.bool true) ∧ Up w w' := by
  have Ha := hid ha; have Hb := hid hb; have Hm := hid hm; have He := hid he
  have hd : ((l.length : Int) != (l.length : Int)) = false := by simp
  clear ha hb hm he
  go_enter Tryd.func54, Tryd.ntmps54
  go_wp2
  go_loopw [5] (fun i wr => ∃ k : Nat, k ≤ l.length ∧ i = .int .i64 k ∧ Up w wr) (fun i _ => l.length - (intOf i).toNat)
  case atStart => exact ⟨0, by omega, rfl, Up.refl _⟩
  case round =>
    obtain ⟨k, hk, rfl, hU⟩ := hrel
    have gr := (bcell hU).1
    have hle := hU.le
    by_cases hlt : k < l.length
    · obtain ⟨b1, o1, rfl, l1, cc1⟩ := (Ha.out).at (by omega)
      obtain ⟨b2, o2, rfl, l2, cc2⟩ := (Hb.out).at (by omega)
      obtain ⟨A3, c3, q1, q2, q3⟩ := cc1 k hlt
      obtain ⟨A4, c4, p1, p2, p3⟩ := cc2 k hlt
      have j1 := (gr _ _ l1).trans q1
      have j2 := (gr _ _ l2).trans p1
      have _ : b1 < wr.heap.size := by omega
      have _ : b2 < wr.heap.size := by omega
      have Hq3 := hid q3; have Hp3 := hid p3
      have Hx := hid (show (l[k]?.getD []).length ≤ 9223372036854775807 by rw [List.getElem?_eq_getElem hlt]; exact He.out _ (List.getElem_mem hlt))
      generalize l[k]?.getD [] = x at *
      have hdk : decide ((k : Int) < (l.length : Int)) = true := by simp; omega
      have hk0 : (0 : Int) ≤ (k : Int) := by omega
      have hkm : (k : Int) < (l.length : Int) := by omega
      have hk9 : (k : Int) < 1000 := by have := Hm.out; omega
      have Hlt := hid hlt
      clear gr cc1 cc2 q1 q2 q3 p1 p2 p3 hlt
      go_wp2_with fail
      go_region_law (go_simp; (go_at_call 29; refine (sints_self _ _ x _ _ _ (RdI.up Hq3.out (hU.call (by (repeat (first | (with_reducible exact Up.refl _) | (with_reducible assumption) | (with_reducible refine Up.alloc ?_ _) | (with_reducible refine Up.drew ?_) | ((with_reducible refine Up.set ?_ ?_ _); rotate_left; focus (first | omega | (simp; done) | (simp; omega))) | (with_reducible refine Up.drewN ?_ _) | (with_reducible refine Up.call ?_ (by with_reducible assumption))))))) (RdI.up Hp3.out (hU.call (by (repeat (first | (with_reducible exact Up.refl _) | (with_reducible assumption) | (with_reducible refine Up.alloc ?_ _) | (with_reducible refine Up.drew ?_) | ((with_reducible refine Up.set ?_ ?_ _); rotate_left; focus (first | omega | (simp; done) | (simp; omega))) | (with_reducible refine Up.drewN ?_ _) | (with_reducible refine Up.call ?_ (by with_reducible assumption))))))) Hx.out).mono ?_; rintro e w4 ⟨rfl, hb4⟩))
      all_goals go_wp2
      all_goals
        go_roundw
        case rel => exact ⟨k + 1, by have := Hlt.out; omega, by go_num, hU.call (by (repeat (first | (with_reducible exact Up.refl _) | (with_reducible assumption) | (with_reducible refine Up.alloc ?_ _) | (with_reducible refine Up.drew ?_) | ((with_reducible refine Up.set ?_ ?_ _); rotate_left; focus (first | omega | (simp; done) | (simp; omega))) | (with_reducible refine Up.drewN ?_ _) | (with_reducible refine Up.call ?_ (by with_reducible assumption)))))⟩
        case measure => have := Hlt.out; simp [intOf]; omega
    · obtain rfl : k = l.length := by omega
      clear gr
      go_wp2
      go_ret
      exact ⟨rfl, hU⟩
theorem arr3_eq (a b c : Int) (d : Nat) (w : World) : (Op.equalIn (d + 2) 93 (.agg #[.int .i64 a, .int .i64 b, .int .i64 c]) (.agg #[.int .i64 a, .int .i64 b, .int .i64 c])).run Tryd.prog w = .ok true w := by
  obtain ⟨i0, hi0, hz0, hz1, hz2⟩ := info_parts Tryd.infoInt
  have hc : Tryd.prog.cellsOf 3 = 1 := by kernel_rfl
  have hu : Tryd.prog.underlying 3 = some (.int .i64) := Tryd.underlying3
  rw [run_equalIn_array w (d + 1) _ _ Tryd.underlying93 hi0, hc]
  show (Op.eqItems (d + 1) _ 1 _ _ [0, 1, 2]).run _ w = _
  simp only [Op.eqItems]
  go_simp
set_option maxRecDepth 100000 in
set_option maxHeartbeats 4000000 in
theorem sform_self (A B : Option Addr) (l : List Tm) (c d : Nat) (w : World) (ha : RdT w A l) (hb : RdT w B l) (hm : l.length ≤ 1000) :
    Calls Tryd.prog 41 #[.slice A l.length c, .slice B l.length d] w fun ev w' => ev = .returned (.bool true) ∧ Up w w' := by
  have Ha := hid ha; have Hb := hid hb; have Hm := hid hm
  have hd : ((l.length : Int) != (l.length : Int)) = false := by simp
  clear ha hb hm
  go_enter Tryd.func41, Tryd.ntmps41
  go_wp2
  go_loopw [5] (fun i wr => ∃ k : Nat, k ≤ l.length ∧ i = .int .i64 k ∧ Up w wr) (fun i _ => l.length - (intOf i).toNat)
  case atStart => exact ⟨0, by omega, rfl, Up.refl _⟩
  case round =>
    obtain ⟨k, hk, rfl, hU⟩ := hrel
    have gr := (bcell hU).1
    have hle := hU.le
    by_cases hlt : k < l.length
    · obtain ⟨b1, o1, rfl, l1, cc1⟩ := (Ha.out).at (by omega)
      obtain ⟨b2, o2, rfl, l2, cc2⟩ := (Hb.out).at (by omega)
      obtain ⟨q1, q2, q3, q4⟩ := cc1 k hlt
      obtain ⟨p1, p2, p3, p4⟩ := cc2 k hlt
      have j1 := (gr _ _ l1).trans q1
      have j2 := (gr _ _ l1).trans q2
      have j3 := (gr _ _ l1).trans q3
      have j4 := (gr _ _ l1).trans q4
      have i1 := (gr _ _ l2).trans p1
      have i2 := (gr _ _ l2).trans p2
      have i3 := (gr _ _ l2).trans p3
      have i4 := (gr _ _ l2).trans p4
      have _ : b1 < wr.heap.size := by omega
      have _ : b2 < wr.heap.size := by omega
      generalize l[k]?.getD default = t at *
      have heq : ∀ w', (Op.equalIn 9999 93 (.agg #[.int .i64 t.t0, .int .i64 t.t1, .int .i64 t.t2]) (.agg #[.int .i64 t.t0, .int .i64 t.t1, .int .i64 t.t2])).run Tryd.prog w' = .ok true w' := fun w' => arr3_eq _ _ _ 9997 w'
      have hdk : decide ((k : Int) < (l.length : Int)) = true := by simp; omega
      have hk0 : (0 : Int) ≤ (k : Int) := by omega
      have hkm : (k : Int) < (l.length : Int) := by omega
      have hk9 : (k : Int) < 1000 := by have := Hm.out; omega
      have Hlt := hid hlt
      clear gr cc1 cc2 q1 q2 q3 q4 p1 p2 p3 p4 hlt
      go_wp2_with fail
      go_quiet (fail)
      go_wp2
      go_roundw
      case rel => exact ⟨k + 1, by have := Hlt.out; omega, by go_num, hU.drewN nq⟩
      case measure => have := Hlt.out; simp [intOf]; omega
    · obtain rfl : k = l.length := by omega
      clear gr
      go_wp2
      go_ret
      exact ⟨rfl, hU⟩
end Go.Proofs.YteoomjenekkomaaDoor
