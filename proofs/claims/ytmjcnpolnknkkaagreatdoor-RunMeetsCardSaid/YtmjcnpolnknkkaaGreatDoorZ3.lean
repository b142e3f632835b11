/- Sessions: the text of a span, and of many. Sessions: the texts of many spans. Sessions: what is done with two spans. Sessions: two spans, by a word. -/
import Derived.Test.YtmjcnpolnknkkaaGreatDoorZ2
import Derived.Test.YtmjcnpolnknkkaaGreatDoorZ1
import Derived.Deep.RegionLaw
import Derived.BigRegion
import Derived.RegionTactic
import Derived.Test.YtmjcnpolnknkkaaGreatDoorPHas
import Derived.Test.YtmjcnpolnknkkaaGreatDoorPSpan
import Derived.Deep.DeepCutAuto
set_option linter.unusedVariables false
set_option linter.unusedSimpArgs false
namespace Go.Proofs.YtmjcnpolnknkkaaGreatDoor
open Go.RowKit

def stextF (p : Sp) : List UInt8 := textF p.lo ++ 44 :: textF p.hi
def Wide (p : Sp) : Prop := (-1000000000000000 ≤ p.lo ∧ p.lo ≤ 1000000000000000) ∧ -1000000000000000 ≤ p.hi ∧ p.hi ≤ 1000000000000000
theorem text_len30 {n : Int} (h : -1000000000000000 ≤ n ∧ n ≤ 1000000000000000) : (textF n).length ≤ 30 := by
  have h1 : n.natAbs / 1000 < 10 ^ (12 + 1) := by
    have : n.natAbs ≤ 1000000000000000 := by omega
    have h2 : n.natAbs / 1000 ≤ 1000000000000000 / 1000 := Nat.div_le_div_right this
    have : (10 : Nat) ^ (12 + 1) = 10000000000000 := by decide
    omega
  have h2 : n.natAbs % 1000 < 10 ^ (2 + 1) := by
    have := Nat.mod_lt n.natAbs (show 0 < 1000 by omega)
    have h3 : (10 : Nat) ^ (2 + 1) = 1000 := by decide
    omega
  have h3 := dd_len 12 _ h1
  have h4 := dd_len 2 _ h2
  unfold textF
  split <;> simp <;> omega
theorem stext_len {p : Sp} (h : Wide p) : (stextF p).length ≤ 61 := by
  have h1 := text_len30 h.1
  have h2 := text_len30 h.2
  unfold stextF
  simp
  omega
set_option maxRecDepth 100000 in
set_option maxHeartbeats 2000000 in
theorem stext_any (p : Sp) (w : World) (hp : Wide p) (hd : Pow w) : Calls Tryz.prog 176 #[.agg #[.int .i64 p.lo, .int .i64 p.hi]] w (RetX strV (stextF p) w) := by
  have HP := hid hd; have H1 := hid hp.1; have H2 := hid hp.2
  have e1 : ∀ a b : List UInt8, (⟨a.toArray⟩ : ByteArray) ++ ⟨b.toArray⟩ = ⟨(a ++ b).toArray⟩ := ba_app
  have E1 := hid e1
  have q1 := text_len30 hp.1; have q2 := text_len30 hp.2
  have q3 : ¬ 9223372036854775807 < (textF p.lo).length + 1 := by omega
  have q4 : ¬ 9223372036854775807 < (textF p.lo).length + 1 + (textF p.hi).length := by omega
  clear q1 q2
  obtain ⟨lo, hi⟩ := p
  dsimp only at *
  clear hp hd e1
  go_enter Tryz.func176, Tryz.ntmps176
  go_wp2
  obtain ⟨W, hW⟩ : ∃ W, W = w.alloc (Obj.cells #[Value.int IntKind.i64 lo, Value.int IntKind.i64 hi] 24) := ⟨_, rfl⟩
  have hU : Up w W := by rw [hW]; exact (Up.refl w).alloc _
  have k0 : W.cell? ⟨w.heap.size, 0, none⟩ = some (.int .i64 lo) := by rw [hW]; first | (go_simp; done) | (go_simp; rfl)
  have k1 : W.cell? ⟨w.heap.size, 1, none⟩ = some (.int .i64 hi) := by rw [hW]; first | (go_simp; done) | (go_simp; rfl)
  have HK := hid (fun (W' : World) (hu : Up W W') => (⟨((bcell hu).1 _ _ (World.block_lt_of_cell? _ _ k0)).trans k0, ((bcell hu).1 _ _ (World.block_lt_of_cell? _ _ k1)).trans k1⟩ : W'.cell? ⟨w.heap.size, 0, none⟩ = some (.int .i64 lo) ∧ W'.cell? ⟨w.heap.size, 1, none⟩ = some (.int .i64 hi)))
  rw [← hW]
  clear hW k0 k1
  have kk := HK.out W (Up.refl W)
  obtain ⟨k0, k1⟩ := kk
  go_region_law (go_simp; first
    | ((go_at_call 46; (with_reducible refine (text_any lo _ H1.out (HP.out.up (by (repeat (first | (with_reducible exact Up.refl _) | (with_reducible assumption) | (with_reducible refine Up.alloc ?_ _) | (with_reducible refine Up.drew ?_) | ((with_reducible refine Up.set ?_ ?_ _); rotate_left; focus (first | omega | (simp; done) | (simp; omega))) | (with_reducible refine Up.drewN ?_ _) | (with_reducible refine Up.call ?_ (by with_reducible assumption))))))).mono ?_); rintro e w1 ⟨x1, rfl, rfl, hb1⟩ <;> (have ka := HK.out w1 (by (repeat (first | (with_reducible exact Up.refl _) | (with_reducible assumption) | (with_reducible refine Up.alloc ?_ _) | (with_reducible refine Up.drew ?_) | ((with_reducible refine Up.set ?_ ?_ _); rotate_left; focus (first | omega | (simp; done) | (simp; omega))) | (with_reducible refine Up.drewN ?_ _) | (with_reducible refine Up.call ?_ (by with_reducible assumption))))); obtain ⟨k2, k3⟩ := ka)) <;> (have hle := Up.le hb1; (try simp only [World.size_alloc, World.size_setCell, World.size_drew, World.heap_drewN] at hle); clear hle))
    | ((go_at_call 46; (with_reducible refine (text_any hi _ H2.out (HP.out.up (by (repeat (first | (with_reducible exact Up.refl _) | (with_reducible assumption) | (with_reducible refine Up.alloc ?_ _) | (with_reducible refine Up.drew ?_) | ((with_reducible refine Up.set ?_ ?_ _); rotate_left; focus (first | omega | (simp; done) | (simp; omega))) | (with_reducible refine Up.drewN ?_ _) | (with_reducible refine Up.call ?_ (by with_reducible assumption))))))).mono ?_); rintro e w2 ⟨x2, rfl, rfl, hb2⟩ <;> (have ka := HK.out w2 (by (repeat (first | (with_reducible exact Up.refl _) | (with_reducible assumption) | (with_reducible refine Up.alloc ?_ _) | (with_reducible refine Up.drew ?_) | ((with_reducible refine Up.set ?_ ?_ _); rotate_left; focus (first | omega | (simp; done) | (simp; omega))) | (with_reducible refine Up.drewN ?_ _) | (with_reducible refine Up.call ?_ (by with_reducible assumption))))); obtain ⟨k4, k5⟩ := ka)) <;> (have hle := Up.le hb2; (try simp only [World.size_alloc, World.size_setCell, World.size_drew, World.heap_drewN] at hle); clear hle)))
  all_goals go_wp2
  all_goals
    go_ret
    refine RetX.same (by (repeat (first | (with_reducible exact Up.refl _) | (with_reducible assumption) | (with_reducible refine Up.alloc ?_ _) | (with_reducible refine Up.drew ?_) | ((with_reducible refine Up.set ?_ ?_ _); rotate_left; focus (first | omega | (simp; done) | (simp; omega))) | (with_reducible refine Up.drewN ?_ _) | (with_reducible refine Up.call ?_ (by with_reducible assumption))))) (congrArg Value.string ?_)
    apply ByteArray.ext
    simp [stextF]
end Go.Proofs.YtmjcnpolnknkkaaGreatDoor

set_option linter.unusedVariables false
set_option linter.unusedSimpArgs false
namespace Go.Proofs.YtmjcnpolnknkkaaGreatDoor
open Go.RowKit

theorem Tryz.infoStr : (Tryz.prog.info? 9).map (fun i => (i.zero, i.size, i.bytes)) = some (some (.string ByteArray.empty), 1, 16) := by kernel_rfl
def textsF (l : List Sp) : List UInt8 := if l = [] then [45] else Lib.join (l.map stextF) [32]
theorem own_strs {w : World} {base n : Nat} {v : Value} {ws : List (List UInt8)} (h : w.ownsRow base 9 1 v n (ws.map strV)) (hn : ws.length = n) (h0 : 0 < n) :
    ∃ g c, v = .slice (some ⟨g, 0, none⟩) n c ∧ g < w.heap.size ∧ n ≤ c ∧ ∀ (j : Nat) x, (ws.map fun b => (⟨b.toArray⟩ : ByteArray))[j]? = some x → w.cell? ⟨g, 0 + j, none⟩ = some (.string x) := by
  obtain ⟨g, c, hv, _, hg⟩ := own_form h h0
  subst hv
  refine ⟨g, c, rfl, hg, ?_, fun j x hx => ?_⟩
  · rcases h.2 with ⟨_, h2⟩ | ⟨g', cap', cur, hv', _, _, hle, _⟩
    · omega
    · injection hv' with _ _ e3; omega
  · rw [List.getElem?_map] at hx
    cases hj : ws[j]? with
    | none => rw [hj] at hx; simp at hx
    | some y =>
      rw [hj] at hx
      simp only [Option.map_some, Option.some.injEq] at hx
      subst hx
      have := h.cells (g := g) rfl j (strV y) (by rw [List.getElem?_map, hj]; rfl)
      rw [show (⟨g, 0, none⟩ : Addr).add j = ⟨g, 0 + j, none⟩ from by unfold Addr.add; split <;> simp_all] at this
      exact this
theorem map_bytes (ws : List (List UInt8)) : (ws.map fun b => (⟨b.toArray⟩ : ByteArray)).map (·.data.toList) = ws := by
  rw [List.map_map]
  conv => rhs; rw [← List.map_id ws]
  apply List.map_congr_left
  intro x _
  simp
theorem join_len (ws : List (List UInt8)) (m : Nat) (h : ∀ x ∈ ws, x.length ≤ m) : (Lib.join ws [32]).length ≤ ws.length * (m + 1) := by
  induction ws with
  | nil => simp [Lib.join_nil]
  | cons x r ih =>
    have h1 := h x (by simp)
    have h2 := ih (fun y hy => h y (by simp [hy]))
    cases r with
    | nil => rw [Lib.join_one]; simp; omega
    | cons y r' =>
      have e : (Lib.join (x :: y :: r') [32]).length = x.length + 1 + (Lib.join (y :: r') [32]).length := by
        simp [Lib.join, List.intercalate]
        omega
      rw [e]
      simp only [List.length_cons] at h2 ⊢
      rw [Nat.add_mul (r'.length + 1) 1]
      omega
set_option maxRecDepth 100000 in
set_option maxHeartbeats 4000000 in
theorem texts_any (A : Option Addr) (l : List Sp) (c : Nat) (w : World) (hr : RdS w A l) (hl : l.length ≤ 1000000) (hw : ∀ p ∈ l, Wide p) (hd : Pow w) : Calls Tryz.prog 182 #[.slice A l.length c] w (RetX strV (textsF l) w) := by
  have HP := hid hd; have HR := hid hr; have HW := hid hw
  obtain ⟨i0, hi0, hz0, hz1, hz2⟩ := info_parts Tryz.infoStr
  clear hd hr hw
  go_enter Tryz.func182, Tryz.ntmps182
  go_wp2
  go_loopw [3, 5, 8] (fun v _ i wr => ∃ (k : Nat), k ≤ l.length ∧ i = .int .i64 k ∧ wr.ownsRow w.heap.size 9 1 v k (((l.take k).map stextF).map strV) ∧ Up w wr) (fun _ _ i _ => l.length - (intOf i).toNat)
  case atStart => exact ⟨0, by omega, rfl, World.ownsRow_nil _ _ _ _, Up.refl _⟩
  case round =>
    obtain ⟨k, hk, rfl, hown, hU⟩ := hrel
    have hk0 : (0 : Int) ≤ (k : Int) := by omega
    by_cases hlt : k < l.length
    · have hkl : (k : Int) < (l.length : Int) := by omega
      have hkd : decide ((k : Int) < (l.length : Int)) = true := decide_eq_true hkl
      obtain ⟨b, o, rfl, lb, cc⟩ := HR.out.at (by omega)
      obtain ⟨q1, q2⟩ := cc k hlt
      have j1 := ((bcell hU).1 _ _ lb).trans q1
      have j2 := ((bcell hU).1 _ _ lb).trans q2
      have hwd := HW.out (l[k]?.getD ⟨0, 0⟩) (by rw [List.getElem?_eq_getElem hlt]; exact List.getElem_mem hlt)
      have Htk := hid (show (l.take (k + 1)).map stextF = (l.take k).map stextF ++ [stextF (l[k]?.getD ⟨0, 0⟩)] by rw [List.take_succ_eq_append_getElem hlt, List.getElem?_eq_getElem hlt, List.map_append]; rfl)
      have HWD := hid hwd; have HO := hid hown; have HJ := hid hlt
      generalize l[k]?.getD ⟨0, 0⟩ = p at *
      clear cc q1 q2 hwd hown hlt
      go_wp2_with (first
                        | ((go_at_call 176; (with_reducible refine (stext_any p _ HWD.out (HP.out.up (by (repeat (first | (with_reducible exact Up.refl _) | (with_reducible assumption) | (with_reducible refine Up.alloc ?_ _) | (with_reducible refine Up.drew ?_) | ((with_reducible refine Up.set ?_ ?_ _); rotate_left; focus (first | omega | (simp; done) | (simp; omega))) | (with_reducible refine Up.drewN ?_ _) | (with_reducible refine Up.call ?_ (by with_reducible assumption))))))).mono ?_); rintro e w1 ⟨x1, rfl, rfl, hb1⟩ <;> ((have hu1 : Up wr w1 := (by (repeat (first | (with_reducible exact Up.refl _) | (with_reducible assumption) | (with_reducible refine Up.alloc ?_ _) | (with_reducible refine Up.drew ?_) | ((with_reducible refine Up.set ?_ ?_ _); rotate_left; focus (first | omega | (simp; done) | (simp; omega))) | (with_reducible refine Up.drewN ?_ _) | (with_reducible refine Up.call ?_ (by with_reducible assumption)))))); have HO1 := hid (ownsUp HO.out hu1))) <;> (have hle := Up.le hb1; (try simp only [World.size_alloc, World.size_setCell, World.size_drew, World.heap_drewN] at hle); clear hle))
                        | (at_builtin; refine wpList_append_own_at _ rfl (.tmp 12) (.tmp 15) _ rfl w.heap.size 9 i0 (.string ByteArray.empty) 1 16 Tryz.underlying42 hi0 hz0 hz1 hz2 rfl (by decide) _ _ _ rfl (HO1.out.alloc _) ⟨w1.heap.size, 0, none⟩ 1 1 [strV (stextF p)] rfl rfl (cell_one_new _ _ _) (by simp [Value.oneCell', strV]) (by unfold maxLen; omega) (by omega) (by have := hU.le; have := hu1.le; simp; omega) ?_; intro v8 w3 own8 g8 _ at8))
      go_roundw
      case rel =>
        refine ⟨k + 1, HJ.out, by go_num, ?_, ?_⟩
        · rw [Htk.out, List.map_append]
          simpa using own8
        · exact Below.grown ((hU.call hu1).alloc _) g8 ((hU.call hu1).alloc _).le (fun j hj => (HO1.out.lt j hj).1)
      case measure => have := HJ.out; simp [intOf]; omega
    · obtain rfl : k = l.length := by omega
      have hkl : ¬ (l.length : Int) < (l.length : Int) := by omega
      have hkd : decide ((l.length : Int) < (l.length : Int)) = false := decide_eq_false hkl
      rw [List.take_length] at hown
      by_cases h0 : l.length = 0
      · obtain rfl : l = [] := by cases l with | nil => rfl | cons _ _ => simp at h0
        obtain ⟨A', c', rfl⟩ : ∃ A c, u3 = .slice A 0 c := by
          rcases hown.2 with ⟨hv, _⟩ | ⟨g, cap, cur, hv, _⟩
          · exact ⟨_, _, hv⟩
          · exact ⟨_, _, hv⟩
        clear hown
        go_wp2
        go_ret
        exact RetX.mk ([45] : List UInt8) hU rfl rfl
      · have hz : ((l.length : Int) == 0) = false := beq_eq_false_iff_ne.2 (by omega)
        obtain ⟨g, cp, hv, hg, hcp, hcells⟩ := own_strs hown (by simp) (by omega)
        have HCL := hid hcells; have HG := hid hg
        have HJL := hid (join_len (l.map stextF) 61 (fun x hx => by
          obtain ⟨p, hp, rfl⟩ := List.mem_map.1 hx
          exact stext_len (HW.out p hp)))
        have HTX := hid (show textsF l = Lib.join (l.map stextF) [32] by unfold textsF; rw [if_neg (fun e => h0 (by rw [e]; rfl))])
        have HC := hid (fun (W : World) (hu : Up wr W) => (by
          have hx := Tryz.strings_Join g 0 cp ((l.map stextF).map fun b => (⟨b.toArray⟩ : ByteArray)) ⟨#[32]⟩ W (fun j x hx => ((bcell hu).1 _ _ HG.out).trans (HCL.out j x hx)) (Nat.lt_of_lt_of_le HG.out hu.le) (by simp; omega) (by simpa using hcp) (by
            rw [map_bytes]
            have := HJL.out
            simp only [List.length_map] at this
            have e : (⟨#[32]⟩ : ByteArray).data.toList = [32] := rfl
            rw [e]
            omega)
          rw [map_bytes] at hx
          have e : (⟨#[32]⟩ : ByteArray).data.toList = [32] := rfl
          rw [e] at hx
          simp only [List.length_map] at hx
          exact hx : Calls Tryz.prog 107 #[.slice (some ⟨g, 0, none⟩) l.length cp, .string ⟨#[32]⟩] W fun e w' => e = .returned (.string ⟨(Lib.join (l.map stextF) [32]).toArray⟩) ∧ Below W.heap.size W w'))
        rw [hv]
        clear hown hv hcells hcp h0
        go_wp2_with (first
                        | (go_at_call 107; (with_reducible refine (HC.out _ (Up.refl _)).mono ?_); rintro e w9 ⟨rfl, hb9⟩))
        go_ret
        refine RetX.mk (Lib.join (l.map stextF) [32]) ?_ HTX.out rfl
        exact hU.call hb9
end Go.Proofs.YtmjcnpolnknkkaaGreatDoor

set_option linter.unusedVariables false
set_option linter.unusedSimpArgs false
namespace Go.Proofs.YtmjcnpolnknkkaaGreatDoor
open Go.RowKit

def wAdd : List UInt8 := [97, 100, 100]
def wLess : List UInt8 := [108, 101, 115, 115]
def wTimes : List UInt8 := [116, 105, 109, 101, 115]
def wBy : List UInt8 := [98, 121]
def wMeet : List UInt8 := [109, 101, 101, 116]
def wHull : List UInt8 := [104, 117, 108, 108]
def deedV (s : List UInt8) : Value :=
  if s = wAdd then .func (.func 169) #[] #[]
  else if s = wLess then .func (.func 170) #[] #[]
  else if s = wTimes then .func (.func 171) #[] #[]
  else if s = wBy then .func (.func 172) #[] #[]
  else if s = wMeet then .func (.func 173) #[] #[]
  else if s = wHull then .func (.func 174) #[] #[]
  else .nilFunc
set_option maxRecDepth 100000 in
set_option maxHeartbeats 4000000 in
theorem deed_any (s : List UInt8) (w : World) : Calls Tryz.prog 133 #[.string ⟨s.toArray⟩] w fun e w' => e = .returned (deedV s) ∧ w' = w := by
  by_cases h0 : s = wAdd
  · have HV := hid (show deedV s = .func (.func 169) #[] #[] by unfold deedV; rw [if_pos h0])
    have n0 : (s == [97, 100, 100]) = true := beq_iff_eq.2 h0
    clear h0
    go_enter Tryz.func133, Tryz.ntmps133
    go_wp2
    go_ret
    exact ⟨congrArg Ending.returned HV.out.symm, rfl⟩
  · skip
    by_cases h1 : s = wLess
    · have HV := hid (show deedV s = .func (.func 170) #[] #[] by unfold deedV; rw [if_neg h0, if_pos h1])
      have n0 : (s == [97, 100, 100]) = false := beq_eq_false_iff_ne.2 h0
      have n1 : (s == [108, 101, 115, 115]) = true := beq_iff_eq.2 h1
      clear h0 h1
      go_enter Tryz.func133, Tryz.ntmps133
      go_wp2
      go_ret
      exact ⟨congrArg Ending.returned HV.out.symm, rfl⟩
    · skip
      by_cases h2 : s = wTimes
      · have HV := hid (show deedV s = .func (.func 171) #[] #[] by unfold deedV; rw [if_neg h0, if_neg h1, if_pos h2])
        have n0 : (s == [97, 100, 100]) = false := beq_eq_false_iff_ne.2 h0
        have n1 : (s == [108, 101, 115, 115]) = false := beq_eq_false_iff_ne.2 h1
        have n2 : (s == [116, 105, 109, 101, 115]) = true := beq_iff_eq.2 h2
        clear h0 h1 h2
        go_enter Tryz.func133, Tryz.ntmps133
        go_wp2
        go_ret
        exact ⟨congrArg Ending.returned HV.out.symm, rfl⟩
      · skip
        by_cases h3 : s = wBy
        · have HV := hid (show deedV s = .func (.func 172) #[] #[] by unfold deedV; rw [if_neg h0, if_neg h1, if_neg h2, if_pos h3])
          have n0 : (s == [97, 100, 100]) = false := beq_eq_false_iff_ne.2 h0
          have n1 : (s == [108, 101, 115, 115]) = false := beq_eq_false_iff_ne.2 h1
          have n2 : (s == [116, 105, 109, 101, 115]) = false := beq_eq_false_iff_ne.2 h2
          have n3 : (s == [98, 121]) = true := beq_iff_eq.2 h3
          clear h0 h1 h2 h3
          go_enter Tryz.func133, Tryz.ntmps133
          go_wp2
          go_ret
          exact ⟨congrArg Ending.returned HV.out.symm, rfl⟩
        · skip
          by_cases h4 : s = wMeet
          · have HV := hid (show deedV s = .func (.func 173) #[] #[] by unfold deedV; rw [if_neg h0, if_neg h1, if_neg h2, if_neg h3, if_pos h4])
            have n0 : (s == [97, 100, 100]) = false := beq_eq_false_iff_ne.2 h0
            have n1 : (s == [108, 101, 115, 115]) = false := beq_eq_false_iff_ne.2 h1
            have n2 : (s == [116, 105, 109, 101, 115]) = false := beq_eq_false_iff_ne.2 h2
            have n3 : (s == [98, 121]) = false := beq_eq_false_iff_ne.2 h3
            have n4 : (s == [109, 101, 101, 116]) = true := beq_iff_eq.2 h4
            clear h0 h1 h2 h3 h4
            go_enter Tryz.func133, Tryz.ntmps133
            go_wp2
            go_ret
            exact ⟨congrArg Ending.returned HV.out.symm, rfl⟩
          · skip
            by_cases h5 : s = wHull
            · have HV := hid (show deedV s = .func (.func 174) #[] #[] by unfold deedV; rw [if_neg h0, if_neg h1, if_neg h2, if_neg h3, if_neg h4, if_pos h5])
              have n0 : (s == [97, 100, 100]) = false := beq_eq_false_iff_ne.2 h0
              have n1 : (s == [108, 101, 115, 115]) = false := beq_eq_false_iff_ne.2 h1
              have n2 : (s == [116, 105, 109, 101, 115]) = false := beq_eq_false_iff_ne.2 h2
              have n3 : (s == [98, 121]) = false := beq_eq_false_iff_ne.2 h3
              have n4 : (s == [109, 101, 101, 116]) = false := beq_eq_false_iff_ne.2 h4
              have n5 : (s == [104, 117, 108, 108]) = true := beq_iff_eq.2 h5
              clear h0 h1 h2 h3 h4 h5
              go_enter Tryz.func133, Tryz.ntmps133
              go_wp2
              go_ret
              exact ⟨congrArg Ending.returned HV.out.symm, rfl⟩
            · skip
              have HV := hid (show deedV s = .nilFunc by unfold deedV; rw [if_neg h0, if_neg h1, if_neg h2, if_neg h3, if_neg h4, if_neg h5])
              have n0 : (s == [97, 100, 100]) = false := beq_eq_false_iff_ne.2 h0
              have n1 : (s == [108, 101, 115, 115]) = false := beq_eq_false_iff_ne.2 h1
              have n2 : (s == [116, 105, 109, 101, 115]) = false := beq_eq_false_iff_ne.2 h2
              have n3 : (s == [98, 121]) = false := beq_eq_false_iff_ne.2 h3
              have n4 : (s == [109, 101, 101, 116]) = false := beq_eq_false_iff_ne.2 h4
              have n5 : (s == [104, 117, 108, 108]) = false := beq_eq_false_iff_ne.2 h5
              clear h0 h1 h2 h3 h4 h5
              go_enter Tryz.func133, Tryz.ntmps133
              go_wp2
              go_ret
              exact ⟨congrArg Ending.returned HV.out.symm, rfl⟩
end Go.Proofs.YtmjcnpolnknkkaaGreatDoor

set_option linter.unusedVariables false
set_option linter.unusedSimpArgs false
namespace Go.Proofs.YtmjcnpolnknkkaaGreatDoor
open Go.RowKit

def opF (s : List UInt8) : Option (Sp → Sp → Except Nat Sp) :=
  if s = wAdd then some sumF
  else if s = wLess then some restF
  else if s = wTimes then some prodF
  else if s = wBy then some quoF
  else if s = wMeet then some comF
  else if s = wHull then some (fun a b => .ok (bothF a b))
  else none
theorem rt_wide {p : Sp} (h : Rt p) : Wide p := by
  obtain ⟨⟨h1, h2⟩, ⟨h3, h4⟩, -⟩ := h
  exact ⟨⟨by omega, by omega⟩, ⟨by omega, by omega⟩⟩
theorem m_wide {p : Sp} (h1 : M p.lo) (h2 : M p.hi) : Wide p := by
  obtain ⟨a, b⟩ := h1
  obtain ⟨c, d⟩ := h2
  exact ⟨⟨by omega, by omega⟩, ⟨by omega, by omega⟩⟩
theorem zero_wide : Wide ⟨0, 0⟩ := ⟨⟨by decide, by decide⟩, ⟨by decide, by decide⟩⟩
theorem fits_wide {s p : Sp} (h : fitsF s = .ok p) : Wide p := by
  obtain ⟨rfl, h1, h2⟩ := fits_ok h
  exact m_wide h1 h2
theorem two_wide {f : Sp → Sp → Except Nat Sp} (hf : ∀ a b p, Rt a → Rt b → f a b = .ok p → Wide p) {a b p : Sp} (h : twoF f a b = .ok p) : Wide p := by
  unfold twoF at h
  cases ha : checkF a with
  | some e => rw [ha] at h; cases h
  | none =>
    rw [ha] at h
    dsimp only at h
    cases hb : checkF b with
    | some e => rw [hb] at h; cases h
    | none => rw [hb] at h; exact hf a b p (checkF_none.1 ha) (checkF_none.1 hb) h
theorem op_any {s : List UInt8} {f : Sp → Sp → Except Nat Sp} (h : opF s = some f) : ∃ K, deedV s = .func (.func K) #[] #[] ∧ (∀ args w, (callFunc K args).run Tryz.prog w = .ok (.enter K args) w) ∧
    (∀ a1 a2 b1 b2 W, Calls Tryz.prog K #[.agg #[.int .i64 a1, .int .i64 a2], .agg #[.int .i64 b1, .int .i64 b2]] W (RetX spR (twoF f ⟨a1, a2⟩ ⟨b1, b2⟩) W)) ∧ ∀ a b p, twoF f a b = .ok p → Wide p := by
  unfold opF at h
  unfold deedV
  by_cases h0 : s = wAdd
  · rw [if_pos h0] at h ⊢; injection h with h; subst h
    exact ⟨_, rfl, enters_of Tryz.func169 (by kernel_rfl) rfl, fun a1 a2 b1 b2 W => sadd_any a1 a2 b1 b2 W, fun a b p h => two_wide (fun a b p _ _ h => fits_wide h) h⟩
  · rw [if_neg h0] at h ⊢
    by_cases h1 : s = wLess
    · rw [if_pos h1] at h ⊢; injection h with h; subst h
      exact ⟨_, rfl, enters_of Tryz.func170 (by kernel_rfl) rfl, fun a1 a2 b1 b2 W => sless_any a1 a2 b1 b2 W, fun a b p h => two_wide (fun a b p _ _ h => fits_wide h) h⟩
    · rw [if_neg h1] at h ⊢
      by_cases h2 : s = wTimes
      · rw [if_pos h2] at h ⊢; injection h with h; subst h
        exact ⟨_, rfl, enters_of Tryz.func171 (by kernel_rfl) rfl, fun a1 a2 b1 b2 W => stimes_any a1 a2 b1 b2 W, fun a b p h => two_wide (fun a b p _ _ h => fits_wide h) h⟩
      · rw [if_neg h2] at h ⊢
        by_cases h3 : s = wBy
        · rw [if_pos h3] at h ⊢; injection h with h; subst h
          exact ⟨_, rfl, enters_of Tryz.func172 (by kernel_rfl) rfl, fun a1 a2 b1 b2 W => sby_any a1 a2 b1 b2 W, fun a b p h => two_wide (fun a b p _ _ h => by
            unfold quoF at h
            split at h
            · cases h
            · exact fits_wide h) h⟩
        · rw [if_neg h3] at h ⊢
          by_cases h4 : s = wMeet
          · rw [if_pos h4] at h ⊢; injection h with h; subst h
            exact ⟨_, rfl, enters_of Tryz.func173 (by kernel_rfl) rfl, fun a1 a2 b1 b2 W => smeet_any a1 a2 b1 b2 W, fun a b p h => two_wide (fun a b p ha hb h => by
              obtain ⟨⟨x1, x2⟩, ⟨x3, x4⟩, -⟩ := ha
              obtain ⟨⟨y1, y2⟩, ⟨y3, y4⟩, -⟩ := hb
              unfold comF at h
              split at h
              · cases h
              · injection h with h
                subst h
                exact ⟨⟨by dsimp only; omega, by dsimp only; omega⟩, ⟨by dsimp only; omega, by dsimp only; omega⟩⟩) h⟩
          · rw [if_neg h4] at h ⊢
            by_cases h5 : s = wHull
            · rw [if_pos h5] at h ⊢; injection h with h; subst h
              exact ⟨_, rfl, enters_of Tryz.func174 (by kernel_rfl) rfl, fun a1 a2 b1 b2 W => shull_any a1 a2 b1 b2 W, fun a b p h => two_wide (fun a b p ha hb h => by
                obtain ⟨⟨x1, x2⟩, ⟨x3, x4⟩, -⟩ := ha
                obtain ⟨⟨y1, y2⟩, ⟨y3, y4⟩, -⟩ := hb
                injection h with h
                subst h
                unfold bothF
                exact ⟨⟨by dsimp only; omega, by dsimp only; omega⟩, ⟨by dsimp only; omega, by dsimp only; omega⟩⟩) h⟩
            · rw [if_neg h5] at h; cases h
theorem op_none {s : List UInt8} (h : opF s = none) : deedV s = .nilFunc := by
  unfold opF at h
  unfold deedV
  repeat' split at h
  all_goals first | (cases h; done) | simp_all
/-- What a line's answer is: a text, what cannot be read, or a fault. -/
def LineR (_ : World) : Except (Option Nat) (List UInt8) → Value → Prop
  | .ok t, v => v = .tuple #[strV t, .nilIface]
  | .error none, v => ∃ t, v = .tuple #[strV t, unV]
  | .error (some n), v => ∃ t, v = .tuple #[strV t, .iface 74 (.int .i64 n)]
def told2 : Except Nat Sp → Except (Option Nat) (List UInt8)
  | .ok p => .ok (stextF p)
  | .error n => .error (some n)
def two2F (f : Sp → Sp → Except Nat Sp) (s t : List UInt8) : Except (Option Nat) (List UInt8) := match spanF s with
  | none => .error none
  | some a => match spanF t with
    | none => .error none
    | some b => told2 (twoF f a b)
end Go.Proofs.YtmjcnpolnknkkaaGreatDoor
