/- Sessions: a line that raises a span. Sessions, plain: what is made of a polynomial and a span is not too wide to be told. -/
import Derived.Test.YtmjcnpolnknkkaaGreatDoorPRunh
import Derived.Test.YtmjcnpolnknkkaaGreatDoorPPower
import Derived.Test.YtmjcnpolnknkkaaGreatDoorPPolyb
import Derived.IntWalk
import Derived.Test.YtmjcnpolnknkkaaGreatDoorPCenterb
import Derived.Test.YtmjcnpolnknkkaaGreatDoorPNewton
import Derived.Test.YtmjcnpolnknkkaaGreatDoorPHas
set_option linter.unusedVariables false
set_option linter.unusedSimpArgs false
namespace Go.Proofs.YtmjcnpolnknkkaaGreatDoor
open Go.RowKit

def raiseF (s t : List UInt8) : Except (Option Nat) (List UInt8) := match spanF s with
  | none => .error none
  | some a => match t with
    | [c] => if 48 ≤ c.toNat ∧ c.toNat ≤ 57 then told2 (powerF a ((c.toNat : Int) - 48)) else .error none
    | _ => .error none
theorem power_wide {a p : Sp} {n : Int} (h : powerF a n = .ok p) : Wide p := by
  unfold powerF at h
  cases ha : checkF a with
  | some e => rw [ha] at h; cases h
  | none =>
    rw [ha] at h
    dsimp only at h
    split at h
    · cases h
    · obtain ⟨h1, h2, -⟩ := checkF_none.1 ha
      obtain ⟨k1, k2⟩ := raised_M h1 h2 h
      exact m_wide k1 k2
theorem raise_ways (s t : List UInt8) : (spanF s = none ∧ raiseF s t = .error none) ∨ ∃ a, spanF s = some a ∧ ((t.length ≠ 1 ∧ raiseF s t = .error none) ∨ ∃ c, t = [c] ∧ ((c.toNat < 48 ∧ raiseF s t = .error none) ∨ (48 ≤ c.toNat ∧ 57 < c.toNat ∧ raiseF s t = .error none) ∨ (48 ≤ c.toNat ∧ c.toNat ≤ 57 ∧ raiseF s t = told2 (powerF a ((c.toNat : Int) - 48))))) := by
  unfold raiseF
  cases h : spanF s with
  | none => exact .inl ⟨rfl, rfl⟩
  | some a =>
    refine .inr ⟨a, rfl, ?_⟩
    match t with
    | [] => exact .inl ⟨by simp, rfl⟩
    | [c] =>
      refine .inr ⟨c, rfl, ?_⟩
      dsimp only
      by_cases h1 : 48 ≤ c.toNat
      · by_cases h2 : c.toNat ≤ 57
        · exact .inr (.inr ⟨h1, h2, by rw [if_pos ⟨h1, h2⟩]⟩)
        · exact .inr (.inl ⟨h1, by omega, by rw [if_neg (by omega)]⟩)
      · exact .inl ⟨by omega, by rw [if_neg (by omega)]⟩
    | x :: y :: r => exact .inl ⟨by simp, rfl⟩


set_option maxRecDepth 100000 in
set_option maxHeartbeats 8000000 in
theorem lraise_any (b : Nat) (s0 s1 s2 : List UInt8) (w : World) (c0 : w.cell? ⟨b, 0, none⟩ = some (strV s0)) (c1 : w.cell? ⟨b, 1, none⟩ = some (strV s1)) (c2 : w.cell? ⟨b, 2, none⟩ = some (strV s2)) (h1 : s1.length ≤ 4000) (hd : DoorR w) :
    Calls Tryz.prog 135 #[.slice (some ⟨b, 0, none⟩) 3 3] w (RetR LineR (raiseF s1 s2) w) := by
  have lb := World.block_lt_of_cell? w _ c0
  dsimp only at lb
  have lg := World.block_lt_of_cell? w _ hd.unread
  dsimp only at lg
  have HD := hid hd; have HL1 := hid h1
  have HC2 := hid (fun (W : World) (hu : Up w W) => (((bcell hu).1 _ _ lb).trans c2 : W.cell? ⟨b, 2, none⟩ = some (.string ⟨s2.toArray⟩)))
  rw [strV_eq] at c0 c1 c2
  clear hd h1
  rcases raise_ways s1 s2 with ⟨r1, hf⟩ | ⟨a, r1, ⟨hl, hf⟩ | ⟨c, rfl, ⟨k1, hf⟩ | ⟨k1, k2, hf⟩ | ⟨k1, k2, hf⟩⟩⟩
  · have H1 := hid r1; have HF := hid hf
    clear r1 hf
    go_enter Tryz.func135, Tryz.ntmps135
    go_wp2_with (first
                        | ((go_at_call 175; (with_reducible refine (read_any s1 _ HL1.out (HD.out.up (by (repeat (first | (with_reducible exact Up.refl _) | (with_reducible assumption) | (with_reducible refine Up.alloc ?_ _) | (with_reducible refine Up.drew ?_) | ((with_reducible refine Up.set ?_ ?_ _); rotate_left; focus (first | omega | (simp; done) | (simp; omega))) | (with_reducible refine Up.drewN ?_ _) | (with_reducible refine Up.call ?_ (by with_reducible assumption))))))).mono ?_); rintro e w1 ⟨x1, hx1, rfl, hb1⟩ <;> (rw [H1.out] at hx1; subst hx1; dsimp only [rspR, unV]; have q2 := HC2.out _ (show Up w w1 by (repeat (first | (with_reducible exact Up.refl _) | (with_reducible assumption) | (with_reducible refine Up.alloc ?_ _) | (with_reducible refine Up.drew ?_) | ((with_reducible refine Up.set ?_ ?_ _); rotate_left; focus (first | omega | (simp; done) | (simp; omega))) | (with_reducible refine Up.drewN ?_ _) | (with_reducible refine Up.call ?_ (by with_reducible assumption))))); have hun := (HD.out.up (show Up w w1 by (repeat (first | (with_reducible exact Up.refl _) | (with_reducible assumption) | (with_reducible refine Up.alloc ?_ _) | (with_reducible refine Up.drew ?_) | ((with_reducible refine Up.set ?_ ?_ _); rotate_left; focus (first | omega | (simp; done) | (simp; omega))) | (with_reducible refine Up.drewN ?_ _) | (with_reducible refine Up.call ?_ (by with_reducible assumption)))))).unread)) <;> (have hle := Up.le hb1; (try simp only [World.size_alloc, World.size_setCell, World.size_drew, World.heap_drewN] at hle); (try (have _ : b < w1.heap.size := (by omega))); (try (have _ : 1 < w1.heap.size := (by omega))); clear hle)))
    go_ret2
    exact RetR.mk (.error none : Except (Option Nat) (List UInt8)) (by (repeat (first | (with_reducible exact Up.refl _) | (with_reducible assumption) | (with_reducible refine Up.alloc ?_ _) | (with_reducible refine Up.drew ?_) | ((with_reducible refine Up.set ?_ ?_ _); rotate_left; focus (first | omega | (simp; done) | (simp; omega))) | (with_reducible refine Up.drewN ?_ _) | (with_reducible refine Up.call ?_ (by with_reducible assumption))))) HF.out (rel := LineR) ⟨[], rfl⟩
  · have H1 := hid r1; have HF := hid hf
    have hl2 : ((s2.length : Int) != 1) = true := by simp; omega
    clear r1 hf hl
    go_enter Tryz.func135, Tryz.ntmps135
    go_upto_region 5 with (first
    | ((go_at_call 175; (with_reducible refine (read_any s1 _ HL1.out (HD.out.up (by (repeat (first | (with_reducible exact Up.refl _) | (with_reducible assumption) | (with_reducible refine Up.alloc ?_ _) | (with_reducible refine Up.drew ?_) | ((with_reducible refine Up.set ?_ ?_ _); rotate_left; focus (first | omega | (simp; done) | (simp; omega))) | (with_reducible refine Up.drewN ?_ _) | (with_reducible refine Up.call ?_ (by with_reducible assumption))))))).mono ?_); rintro e w1 ⟨x1, hx1, rfl, hb1⟩ <;> (rw [H1.out] at hx1; subst hx1; dsimp only [rspR, unV]; have q2 := HC2.out _ (show Up w w1 by (repeat (first | (with_reducible exact Up.refl _) | (with_reducible assumption) | (with_reducible refine Up.alloc ?_ _) | (with_reducible refine Up.drew ?_) | ((with_reducible refine Up.set ?_ ?_ _); rotate_left; focus (first | omega | (simp; done) | (simp; omega))) | (with_reducible refine Up.drewN ?_ _) | (with_reducible refine Up.call ?_ (by with_reducible assumption))))); have hun := (HD.out.up (show Up w w1 by (repeat (first | (with_reducible exact Up.refl _) | (with_reducible assumption) | (with_reducible refine Up.alloc ?_ _) | (with_reducible refine Up.drew ?_) | ((with_reducible refine Up.set ?_ ?_ _); rotate_left; focus (first | omega | (simp; done) | (simp; omega))) | (with_reducible refine Up.drewN ?_ _) | (with_reducible refine Up.call ?_ (by with_reducible assumption)))))).unread)) <;> (have hle := Up.le hb1; (try simp only [World.size_alloc, World.size_setCell, World.size_drew, World.heap_drewN] at hle); (try (have _ : b < w1.heap.size := (by omega))); (try (have _ : 1 < w1.heap.size := (by omega))); clear hle)))
    go_quiet (fail)
    go_wp2
    go_ret2
    exact RetR.mk (.error none : Except (Option Nat) (List UInt8)) (by (repeat (first | (with_reducible exact Up.refl _) | (with_reducible assumption) | (with_reducible refine Up.alloc ?_ _) | (with_reducible refine Up.drew ?_) | ((with_reducible refine Up.set ?_ ?_ _); rotate_left; focus (first | omega | (simp; done) | (simp; omega))) | (with_reducible refine Up.drewN ?_ _) | (with_reducible refine Up.call ?_ (by with_reducible assumption))))) HF.out (rel := LineR) ⟨[], rfl⟩
  · have H1 := hid r1; have HF := hid hf
    have hb0 : (⟨#[c]⟩ : ByteArray)[0]'(by simp [ByteArray.size]) = c := rfl
    have hk1 : decide ((c.toNat : Int) < 48) = true := decide_eq_true (by omega)
    have hk2 : (c.toNat : Int) < 48 := by omega
    clear r1 hf
    go_enter Tryz.func135, Tryz.ntmps135
    go_upto_region 5 with (first
    | ((go_at_call 175; (with_reducible refine (read_any s1 _ HL1.out (HD.out.up (by (repeat (first | (with_reducible exact Up.refl _) | (with_reducible assumption) | (with_reducible refine Up.alloc ?_ _) | (with_reducible refine Up.drew ?_) | ((with_reducible refine Up.set ?_ ?_ _); rotate_left; focus (first | omega | (simp; done) | (simp; omega))) | (with_reducible refine Up.drewN ?_ _) | (with_reducible refine Up.call ?_ (by with_reducible assumption))))))).mono ?_); rintro e w1 ⟨x1, hx1, rfl, hb1⟩ <;> (rw [H1.out] at hx1; subst hx1; dsimp only [rspR, unV]; have q2 := HC2.out _ (show Up w w1 by (repeat (first | (with_reducible exact Up.refl _) | (with_reducible assumption) | (with_reducible refine Up.alloc ?_ _) | (with_reducible refine Up.drew ?_) | ((with_reducible refine Up.set ?_ ?_ _); rotate_left; focus (first | omega | (simp; done) | (simp; omega))) | (with_reducible refine Up.drewN ?_ _) | (with_reducible refine Up.call ?_ (by with_reducible assumption))))); have hun := (HD.out.up (show Up w w1 by (repeat (first | (with_reducible exact Up.refl _) | (with_reducible assumption) | (with_reducible refine Up.alloc ?_ _) | (with_reducible refine Up.drew ?_) | ((with_reducible refine Up.set ?_ ?_ _); rotate_left; focus (first | omega | (simp; done) | (simp; omega))) | (with_reducible refine Up.drewN ?_ _) | (with_reducible refine Up.call ?_ (by with_reducible assumption)))))).unread)) <;> (have hle := Up.le hb1; (try simp only [World.size_alloc, World.size_setCell, World.size_drew, World.heap_drewN] at hle); (try (have _ : b < w1.heap.size := (by omega))); (try (have _ : 1 < w1.heap.size := (by omega))); clear hle)))
    go_quiet (fail)
    go_wp2
    go_ret2
    exact RetR.mk (.error none : Except (Option Nat) (List UInt8)) (by (repeat (first | (with_reducible exact Up.refl _) | (with_reducible assumption) | (with_reducible refine Up.alloc ?_ _) | (with_reducible refine Up.drew ?_) | ((with_reducible refine Up.set ?_ ?_ _); rotate_left; focus (first | omega | (simp; done) | (simp; omega))) | (with_reducible refine Up.drewN ?_ _) | (with_reducible refine Up.call ?_ (by with_reducible assumption))))) HF.out (rel := LineR) ⟨[], rfl⟩
  · have H1 := hid r1; have HF := hid hf
    have hb0 : (⟨#[c]⟩ : ByteArray)[0]'(by simp [ByteArray.size]) = c := rfl
    have hk1 : decide ((c.toNat : Int) < 48) = false := decide_eq_false (by omega)
    have hk2 : decide ((57 : Int) < (c.toNat : Int)) = true := decide_eq_true (by omega)
    clear r1 hf
    go_enter Tryz.func135, Tryz.ntmps135
    go_upto_region 5 with (first
    | ((go_at_call 175; (with_reducible refine (read_any s1 _ HL1.out (HD.out.up (by (repeat (first | (with_reducible exact Up.refl _) | (with_reducible assumption) | (with_reducible refine Up.alloc ?_ _) | (with_reducible refine Up.drew ?_) | ((with_reducible refine Up.set ?_ ?_ _); rotate_left; focus (first | omega | (simp; done) | (simp; omega))) | (with_reducible refine Up.drewN ?_ _) | (with_reducible refine Up.call ?_ (by with_reducible assumption))))))).mono ?_); rintro e w1 ⟨x1, hx1, rfl, hb1⟩ <;> (rw [H1.out] at hx1; subst hx1; dsimp only [rspR, unV]; have q2 := HC2.out _ (show Up w w1 by (repeat (first | (with_reducible exact Up.refl _) | (with_reducible assumption) | (with_reducible refine Up.alloc ?_ _) | (with_reducible refine Up.drew ?_) | ((with_reducible refine Up.set ?_ ?_ _); rotate_left; focus (first | omega | (simp; done) | (simp; omega))) | (with_reducible refine Up.drewN ?_ _) | (with_reducible refine Up.call ?_ (by with_reducible assumption))))); have hun := (HD.out.up (show Up w w1 by (repeat (first | (with_reducible exact Up.refl _) | (with_reducible assumption) | (with_reducible refine Up.alloc ?_ _) | (with_reducible refine Up.drew ?_) | ((with_reducible refine Up.set ?_ ?_ _); rotate_left; focus (first | omega | (simp; done) | (simp; omega))) | (with_reducible refine Up.drewN ?_ _) | (with_reducible refine Up.call ?_ (by with_reducible assumption)))))).unread)) <;> (have hle := Up.le hb1; (try simp only [World.size_alloc, World.size_setCell, World.size_drew, World.heap_drewN] at hle); (try (have _ : b < w1.heap.size := (by omega))); (try (have _ : 1 < w1.heap.size := (by omega))); clear hle)))
    go_quiet (fail)
    go_wp2
    go_ret2
    exact RetR.mk (.error none : Except (Option Nat) (List UInt8)) (by (repeat (first | (with_reducible exact Up.refl _) | (with_reducible assumption) | (with_reducible refine Up.alloc ?_ _) | (with_reducible refine Up.drew ?_) | ((with_reducible refine Up.set ?_ ?_ _); rotate_left; focus (first | omega | (simp; done) | (simp; omega))) | (with_reducible refine Up.drewN ?_ _) | (with_reducible refine Up.call ?_ (by with_reducible assumption))))) HF.out (rel := LineR) ⟨[], rfl⟩
  · have H1 := hid r1; have HF := hid hf
    have hb0 : (⟨#[c]⟩ : ByteArray)[0]'(by simp [ByteArray.size]) = c := rfl
    have hk1 : decide ((c.toNat : Int) < 48) = false := decide_eq_false (by omega)
    have hk2 : decide ((57 : Int) < (c.toNat : Int)) = false := decide_eq_false (by omega)
    have hw1 : IntKind.u8.wrap ((c.toNat : Int) - 48) = (c.toNat : Int) - 48 := IntWalk.u8_in _ (by omega)
    have hw2 : IntKind.i64.wrap ((c.toNat : Int) - 48) = (c.toNat : Int) - 48 := IntWalk.i64_in _ (by omega)
    clear r1 hf k1 k2
    obtain ⟨a1, a2⟩ := a
    have hout : ∃ (p : Sp) (E : Option Nat), powerF ⟨a1, a2⟩ ((c.toNat : Int) - 48) = (match E with | none => .ok p | some n => .error n) ∧ spR (powerF ⟨a1, a2⟩ ((c.toNat : Int) - 48)) = .tuple #[.agg #[.int .i64 p.lo, .int .i64 p.hi], errV E] ∧ Wide p := by
      cases r3 : powerF ⟨a1, a2⟩ ((c.toNat : Int) - 48) with
      | error n => exact ⟨⟨0, 0⟩, some n, rfl, rfl, zero_wide⟩
      | ok p => exact ⟨p, none, rfl, rfl, power_wide r3⟩
    obtain ⟨p, E, hE, hsp, hpw⟩ := hout
    have HE := hid hE; have HSP := hid hsp; have HPW := hid hpw
    clear hE hsp hpw
    go_enter Tryz.func135, Tryz.ntmps135
    go_upto_region 6 with (first
    | ((go_at_call 175; (with_reducible refine (read_any s1 _ HL1.out (HD.out.up (by (repeat (first | (with_reducible exact Up.refl _) | (with_reducible assumption) | (with_reducible refine Up.alloc ?_ _) | (with_reducible refine Up.drew ?_) | ((with_reducible refine Up.set ?_ ?_ _); rotate_left; focus (first | omega | (simp; done) | (simp; omega))) | (with_reducible refine Up.drewN ?_ _) | (with_reducible refine Up.call ?_ (by with_reducible assumption))))))).mono ?_); rintro e w1 ⟨x1, hx1, rfl, hb1⟩ <;> (rw [H1.out] at hx1; subst hx1; dsimp only [rspR, unV]; have q2 := HC2.out _ (show Up w w1 by (repeat (first | (with_reducible exact Up.refl _) | (with_reducible assumption) | (with_reducible refine Up.alloc ?_ _) | (with_reducible refine Up.drew ?_) | ((with_reducible refine Up.set ?_ ?_ _); rotate_left; focus (first | omega | (simp; done) | (simp; omega))) | (with_reducible refine Up.drewN ?_ _) | (with_reducible refine Up.call ?_ (by with_reducible assumption))))); have hun := (HD.out.up (show Up w w1 by (repeat (first | (with_reducible exact Up.refl _) | (with_reducible assumption) | (with_reducible refine Up.alloc ?_ _) | (with_reducible refine Up.drew ?_) | ((with_reducible refine Up.set ?_ ?_ _); rotate_left; focus (first | omega | (simp; done) | (simp; omega))) | (with_reducible refine Up.drewN ?_ _) | (with_reducible refine Up.call ?_ (by with_reducible assumption)))))).unread)) <;> (have hle := Up.le hb1; (try simp only [World.size_alloc, World.size_setCell, World.size_drew, World.heap_drewN] at hle); (try (have _ : b < w1.heap.size := (by omega))); (try (have _ : 1 < w1.heap.size := (by omega))); clear hle)))
    obtain ⟨W0, hW0⟩ : ∃ W0, W0 = w1.alloc (Obj.cells #[Value.int IntKind.i64 a1, Value.int IntKind.i64 a2] 24) := ⟨_, rfl⟩
    have hU0 : Up w W0 := by rw [hW0]; (repeat (first | (with_reducible exact Up.refl _) | (with_reducible assumption) | (with_reducible refine Up.alloc ?_ _) | (with_reducible refine Up.drew ?_) | ((with_reducible refine Up.set ?_ ?_ _); rotate_left; focus (first | omega | (simp; done) | (simp; omega))) | (with_reducible refine Up.drewN ?_ _) | (with_reducible refine Up.call ?_ (by with_reducible assumption))))
    have hle0 := hU0.le
    have hlt1 : w1.heap.size < W0.heap.size := by rw [hW0]; simp
    have hlt0 : b < W0.heap.size := by omega
    have g0 : W0.cell? ⟨b, 2, none⟩ = some (.string ⟨#[c]⟩) := HC2.out _ hU0
    have g1 : W0.cell? ⟨w1.heap.size, 0, none⟩ = some (.int .i64 a1) := by rw [hW0]; first | (go_simp; done) | (go_simp; rfl)
    have g2 : W0.cell? ⟨w1.heap.size, 1, none⟩ = some (.int .i64 a2) := by rw [hW0]; first | (go_simp; done) | (go_simp; rfl)
    have HG := hid (fun (W' : World) (hu : Up W0 W') => (⟨((bcell hu).1 _ _ (World.block_lt_of_cell? _ _ g0)).trans g0, ((bcell hu).1 _ _ (World.block_lt_of_cell? _ _ g1)).trans g1, ((bcell hu).1 _ _ (World.block_lt_of_cell? _ _ g2)).trans g2⟩ : W'.cell? ⟨b, 2, none⟩ = some (.string ⟨#[c]⟩) ∧ W'.cell? ⟨w1.heap.size, 0, none⟩ = some (.int .i64 a1) ∧ W'.cell? ⟨w1.heap.size, 1, none⟩ = some (.int .i64 a2)))
    rw [← hW0]
    clear hW0 g0 g1 g2
    go_cut [6, 5] (fun t7 e5 wx => ∃ g : Nat, t7 = .pointer (some ⟨g, 0, none⟩) ∧ e5 = errV E ∧ wx.cell? ⟨g, 0, none⟩ = some (.int .i64 p.lo) ∧ wx.cell? ⟨g, 1, none⟩ = some (.int .i64 p.hi) ∧ Up w wx)
    case first =>
      go_region_held3 (fun w' => w'.cell? ⟨b, 2, none⟩ = some (.string ⟨#[c]⟩) ∧ w'.cell? ⟨w1.heap.size, 0, none⟩ = some (.int .i64 a1) ∧ w'.cell? ⟨w1.heap.size, 1, none⟩ = some (.int .i64 a2)) (exact HG.out _ (by (repeat (first | (with_reducible exact Up.refl _) | (with_reducible assumption) | (with_reducible refine Up.alloc ?_ _) | (with_reducible refine Up.drew ?_) | ((with_reducible refine Up.set ?_ ?_ _); rotate_left; focus (first | omega | (simp; done) | (simp; omega))) | (with_reducible refine Up.drewN ?_ _) | (with_reducible refine Up.call ?_ (by with_reducible assumption)))))) (first
        | (go_at_call 177; (with_reducible refine (power_any a1 a2 ((c.toNat : Int) - 48) _).mono ?_); rintro e w6 ⟨x6, hx6, rfl, hb6⟩; rw [← hx6, HSP.out]; clear hx6; (have hle6 := Up.le hb6); (try (apply ck hb6 (W0.heap.size) 0; (focus (first | (go_simp; done) | (go_simp; rfl))); intro z0; apply ck hb6 (W0.heap.size) 1; (focus (first | (go_simp; done) | (go_simp; rfl))); intro z1; apply fk hb6 (W0.heap.size); (focus (first | (go_simp; done) | (go_simp; rfl))); (focus (intro o; go_simp)); intro zf))))
      all_goals go_wp2
      all_goals
        go_meet
        exact ⟨_, rfl, rfl, by first | assumption | (go_simp; done) | (go_simp; rfl), by first | assumption | (go_simp; done) | (go_simp; rfl), by (repeat (first | (with_reducible exact Up.refl _) | (with_reducible assumption) | (with_reducible refine Up.alloc ?_ _) | (with_reducible refine Up.drew ?_) | ((with_reducible refine Up.set ?_ ?_ _); rotate_left; focus (first | omega | (simp; done) | (simp; omega))) | (with_reducible refine Up.drewN ?_ _) | (with_reducible refine Up.call ?_ (by with_reducible assumption))))⟩
    case rest =>
      obtain ⟨g, rfl, rfl, k0, k1, hU9⟩ := hcut
      go_wp2_with (first
                        | ((go_at_call 176; (with_reducible refine (stext_any p _ HPW.out (HD.out.up (by (repeat (first | (with_reducible exact Up.refl _) | (with_reducible assumption) | (with_reducible refine Up.alloc ?_ _) | (with_reducible refine Up.drew ?_) | ((with_reducible refine Up.set ?_ ?_ _); rotate_left; focus (first | omega | (simp; done) | (simp; omega))) | (with_reducible refine Up.drewN ?_ _) | (with_reducible refine Up.call ?_ (by with_reducible assumption)))))).pow).mono ?_); rintro e w7 ⟨x7, rfl, rfl, hb7⟩) <;> (have hle := Up.le hb7; (try simp only [World.size_alloc, World.size_setCell, World.size_drew, World.heap_drewN] at hle); (try (have _ : w1.heap.size < w7.heap.size := (by omega); (first | ((apply fk hb7 (w1.heap.size); (focus (go_simp; rfl)); (focus (intro o; go_simp)); intro z; (try clear f1_0); have f1_0 := z; clear z)) | skip); (try (apply fko hb7 (w1.heap.size) 0; (focus (go_simp; rfl)); (focus (go_simp; done)); intro z; (try clear g1_0_0); have g1_0_0 := z; clear z)); (try (apply fko hb7 (w1.heap.size) 1; (focus (go_simp; rfl)); (focus (go_simp; done)); intro z; (try clear g1_0_1); have g1_0_1 := z; clear z)); (try (apply ck hb7 (w1.heap.size) 0; (focus (go_simp; rfl)); intro z; (try clear c1_0_0); have c1_0_0 := z; clear z)); (try (apply ck hb7 (w1.heap.size) 1; (focus (go_simp; rfl)); intro z; (try clear c1_0_1); have c1_0_1 := z; clear z)))); (try (have _ : b < w7.heap.size := (by omega))); (try (have _ : 1 < w7.heap.size := (by omega))); clear hle)))
      go_ret2
      cases E with
      | none => exact RetR.mk (.ok (stextF p) : Except (Option Nat) (List UInt8)) (by (repeat (first | (with_reducible exact Up.refl _) | (with_reducible assumption) | (with_reducible refine Up.alloc ?_ _) | (with_reducible refine Up.drew ?_) | ((with_reducible refine Up.set ?_ ?_ _); rotate_left; focus (first | omega | (simp; done) | (simp; omega))) | (with_reducible refine Up.drewN ?_ _) | (with_reducible refine Up.call ?_ (by with_reducible assumption))))) (by rw [HF.out, HE.out]; rfl) (rel := LineR) rfl
      | some n => exact RetR.mk (.error (some n) : Except (Option Nat) (List UInt8)) (by (repeat (first | (with_reducible exact Up.refl _) | (with_reducible assumption) | (with_reducible refine Up.alloc ?_ _) | (with_reducible refine Up.drew ?_) | ((with_reducible refine Up.set ?_ ?_ _); rotate_left; focus (first | omega | (simp; done) | (simp; omega))) | (with_reducible refine Up.drewN ?_ _) | (with_reducible refine Up.call ?_ (by with_reducible assumption))))) (by rw [HF.out, HE.out]; rfl) (rel := LineR) ⟨_, rfl⟩
end Go.Proofs.YtmjcnpolnknkkaaGreatDoor

set_option linter.unusedVariables false
set_option linter.unusedSimpArgs false
namespace Go.Proofs.YtmjcnpolnknkkaaGreatDoor
open Go.RowKit

theorem com_bd {a c s : Sp} (hc : M c.lo ∧ M c.hi) (h : comF a c = .ok s) : M s.lo ∧ M s.hi := by
  obtain ⟨⟨h1, h2⟩, ⟨h3, h4⟩⟩ := hc
  unfold comF at h
  split at h
  · cases h
  · injection h with h
    subst h
    exact ⟨⟨by dsimp only; omega, by dsimp only; omega⟩, ⟨by dsimp only; omega, by dsimp only; omega⟩⟩
theorem around_bd {p : List Int} {x s : Sp} (h : aroundF p x = .ok s) : M s.lo ∧ M s.hi := by
  unfold aroundF at h
  split at h
  · cases h
  · split at h
    · cases h
    · split at h
      · cases h
      · split at h
        · cases h
        · exact sum_M h
theorem tight_bd {p : List Int} {x s : Sp} (h : tightF p x = .ok s) : M s.lo ∧ M s.hi := by
  unfold tightF at h
  split at h
  · cases h
  · split at h
    · cases h
    · split at h
      · cases h
      · split at h
        · cases h
        · rename_i c hc
          exact com_bd (around_bd hc) h
theorem over_bd {p : List Int} {x s : Sp} (h0 : 0 < p.length) (hp : ∀ n ∈ p, M n) (h : overF p x = .ok s) : M s.lo ∧ M s.hi := by
  unfold overF at h
  split at h
  · cases h
  · rename_i best hb
    split at h
    · cases h
    · split at h
      · injection h with h; subst h; exact tight_bd hb
      · dsimp only at h
        split at h
        · cases h
        · rename_i a ha
          split at h
          · cases h
          · rename_i c hc
            injection h with h
            subst h
            exact ⟨(nested_M h0 hp ha).1, (nested_M h0 hp hc).2⟩
theorem both_parts {p : List Int} {x : Sp} (h : pbothF p x = none) : 0 < p.length ∧ p.length ≤ 5 ∧ (∀ n ∈ p, M n) ∧ Rt x := by
  unfold pbothF at h
  cases hp : pcheckF p with
  | some e => rw [hp] at h; cases h
  | none =>
    rw [hp] at h
    unfold pcheckF at hp
    split at hp
    · cases hp
    · split at hp
      · cases hp
      · split at hp
        · rename_i h1 h2 h3
          exact ⟨by omega, by omega, h3, checkF_none.1 h⟩
        · cases hp
theorem range_wide {p : List Int} {x s : Sp} (h : mrangeF p x = .ok s) : Wide s := by
  unfold mrangeF at h
  cases hb : pbothF p x with
  | some e => rw [hb] at h; cases h
  | none =>
    rw [hb] at h
    obtain ⟨h0, -, hp, -⟩ := both_parts hb
    obtain ⟨h1, h2⟩ := over_bd h0 hp h
    exact m_wide h1 h2
theorem nrunG_rt {p : List Int} : ∀ (k : Nat) (x s : Sp), Rt x → nrunG p k x = .ok s → Rt s
  | 0, x, s, hx, h => by
    unfold nrunG at h
    injection h with h
    subst h
    exact hx
  | k + 1, x, s, hx, h => by
    unfold nrunG at h
    split at h
    · cases h
    · rename_i y hy
      split at h
      · injection h with h; subst h; exact hx
      · exact nrunG_rt k y s (nearer_rt hx hy) h
theorem nrun_wide {p : List Int} {x s : Sp} {n : Int} (h : nrunF p x n = .ok s) : Wide s := by
  unfold nrunF at h
  split at h
  · cases h
  · cases hb : pbothF p x with
    | some e => rw [hb] at h; cases h
    | none =>
      rw [hb] at h
      exact rt_wide (nrunG_rt _ x s (both_parts hb).2.2.2 h)
theorem find_bd {p : List Int} {least : Int} : ∀ (f : Nat) (x : Sp) (out o : List Sp), Rt x → out.length ≤ 32 → (∀ q ∈ out, Rt q) → findG p least f x out = .ok o → o.length ≤ 32 ∧ ∀ q ∈ o, Rt q
  | f, x, out, o, hx, hl, ho, h => by
    unfold findG at h
    split at h
    · cases h
    · split at h
      · injection h with h; subst h; exact ⟨hl, ho⟩
      · split at h
        · split at h
          · cases h
          · rename_i h32
            injection h with h
            subst h
            refine ⟨by simp; omega, fun q hq => ?_⟩
            rcases List.mem_append.1 hq with hq | hq
            · exact ho q hq
            · simp only [List.mem_singleton] at hq; subst hq; exact hx
        · cases f with
          | zero => cases h
          | succ f =>
            dsimp only at h
            have hm := half_bd hx
            have hi := half_in hx.2.2
            split at h
            · cases h
            · rename_i o' ho'
              obtain ⟨k1, k2⟩ := find_bd f ⟨x.lo, halfF x⟩ out o' ⟨hx.1, hm, hi.1⟩ hl ho ho'
              exact find_bd f ⟨halfF x, x.hi⟩ o' o ⟨hm, hx.2.1, hi.2⟩ k1 k2 h
theorem findF_bd {p : List Int} {x : Sp} {least : Int} {o : List Sp} (h : findF p x least = .ok o) : o.length ≤ 32 ∧ ∀ q ∈ o, Wide q := by
  unfold findF at h
  cases hb : pbothF p x with
  | some e => rw [hb] at h; cases h
  | none =>
    rw [hb] at h
    unfold orErr at h
    dsimp only at h
    split at h
    · cases h
    · obtain ⟨h1, h2⟩ := find_bd _ x [] o (both_parts hb).2.2.2 (by simp) (fun q hq => by cases hq) h
      exact ⟨h1, fun q hq => rt_wide (h2 q hq)⟩
end Go.Proofs.YtmjcnpolnknkkaaGreatDoor
