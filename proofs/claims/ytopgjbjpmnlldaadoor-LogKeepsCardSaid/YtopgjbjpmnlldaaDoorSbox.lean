/- Lists of boxes that are the same are found so. -/
import Derived.Test.YtopgjbjpmnlldaaDoorSerr
import Derived.Test.YtopgjbjpmnlldaaDoorOwnk
import Derived.Deep.RegionLaw

set_option linter.unusedVariables false
set_option linter.unusedSimpArgs false
namespace Go.Proofs.YtopgjbjpmnlldaaDoor
open Go.RowKit

theorem RdR.upS {w w' : World} {A : Option Addr} {l : List (List Sp)} (h : RdR RdS w A l) (hu : Up w w') : RdR RdS w' A l := RdR.up (R := RdS) RdS.up h hu

set_option maxRecDepth 100000 in
set_option maxHeartbeats 4000000 in
theorem sboxes_self (A B : Option Addr) (l : List (List Sp)) (c d : Nat) (w : World) (ha : RdR RdS w A l) (hb : RdR RdS w B l) (hm : l.length ≤ 1000) (he : ∀ x ∈ l, x.length ≤ 9223372036854775807) :
    Calls Tryd.prog 23 #[.slice A l.length c, .slice B l.length d] w fun ev w' => ev = .returned (.bool true) ∧ Up w w' := by
  have Ha := hid ha; have Hb := hid hb; have Hm := hid hm; have He := hid he
  have hd : ((l.length : Int) != (l.length : Int)) = false := by simp
  clear ha hb hm he
  go_enter Tryd.func23, Tryd.ntmps23
  go_wp2
  go_loopw [5] (fun i wr => ∃ k : Nat, k ≤ l.length ∧ i = .int .i64 k ∧ Up w wr) (fun i _ => l.length - (intOf i).toNat)
  case atStart => exact ⟨0, by omega, rfl, Up.refl _⟩
  case round =>
    obtain ⟨k, hk, rfl, hU⟩ := hrel
    have gr := (bcell hU).1
    have hle := hU.le
    by_cases hlt : k < l.length
    · obtain ⟨b1, o1, rfl, l1, cc1⟩ := (Ha.out).at (by omega)
      obtain ⟨b2, o2, rfl, l2, cc2⟩ := (Hb.out).at (by omega)
      obtain ⟨A3, c3, q1, q2, q3⟩ := cc1 k hlt
      obtain ⟨A4, c4, p1, p2, p3⟩ := cc2 k hlt
      have j1 := (gr _ _ l1).trans q1
      have j2 := (gr _ _ l2).trans p1
      have _ : b1 < wr.heap.size := by omega
      have _ : b2 < wr.heap.size := by omega
      have Hq3 := hid q3; have Hp3 := hid p3
      have Hx := hid (show (l[k]?.getD []).length ≤ 9223372036854775807 by rw [List.getElem?_eq_getElem hlt]; exact He.out _ (List.getElem_mem hlt))
      generalize l[k]?.getD [] = x at *
      have hdk : decide ((k : Int) < (l.length : Int)) = true := by simp; omega
      have hk0 : (0 : Int) ≤ (k : Int) := by omega
      have hkm : (k : Int) < (l.length : Int) := by omega
      have hk9 : (k : Int) < 1000 := by have := Hm.out; omega
      have Hlt := hid hlt
      clear gr cc1 cc2 q1 q2 q3 p1 p2 p3 hlt
      go_wp2_with fail
      go_region_law (go_simp; (go_at_call 25; refine (sbox_self _ _ x _ _ _ (Hq3.out.up (hU.call (by (repeat (first | (with_reducible exact Up.refl _) | (with_reducible assumption) | (with_reducible refine Up.alloc ?_ _) | (with_reducible refine Up.drew ?_) | ((with_reducible refine Up.set ?_ ?_ _); rotate_left; focus (first | omega | (simp; done) | (simp; omega))) | (with_reducible refine Up.drewN ?_ _) | (with_reducible refine Up.call ?_ (by with_reducible assumption))))))) (Hp3.out.up (hU.call (by (repeat (first | (with_reducible exact Up.refl _) | (with_reducible assumption) | (with_reducible refine Up.alloc ?_ _) | (with_reducible refine Up.drew ?_) | ((with_reducible refine Up.set ?_ ?_ _); rotate_left; focus (first | omega | (simp; done) | (simp; omega))) | (with_reducible refine Up.drewN ?_ _) | (with_reducible refine Up.call ?_ (by with_reducible assumption))))))) Hx.out).mono ?_; rintro e w4 ⟨rfl, hb4⟩))
      all_goals go_wp2
      all_goals
        go_roundw
        case rel => exact ⟨k + 1, by have := Hlt.out; omega, by go_num, hU.call (by (repeat (first | (with_reducible exact Up.refl _) | (with_reducible assumption) | (with_reducible refine Up.alloc ?_ _) | (with_reducible refine Up.drew ?_) | ((with_reducible refine Up.set ?_ ?_ _); rotate_left; focus (first | omega | (simp; done) | (simp; omega))) | (with_reducible refine Up.drewN ?_ _) | (with_reducible refine Up.call ?_ (by with_reducible assumption)))))⟩
        case measure => have := Hlt.out; simp [intOf]; omega
    · obtain rfl : k = l.length := by omega
      clear gr
      go_wp2
      go_ret
      exact ⟨rfl, hU⟩
end Go.Proofs.YtopgjbjpmnlldaaDoor
