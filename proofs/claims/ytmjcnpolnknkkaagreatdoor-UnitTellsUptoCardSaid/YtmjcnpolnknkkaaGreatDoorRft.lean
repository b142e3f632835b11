/- The walks of the reference's Times and By. The walk of the reference's Derive. -/
import Derived.Test.YtmjcnpolnknkkaaGreatDoorRfs
import Derived.Test.YtmjcnpolnknkkaaGreatDoorNest
import Derived.Test.YtmjcnpolnknkkaaGreatDoorSpan
import Derived.Test.YtmjcnpolnknkkaaGreatDoorPolyb
import Derived.Maps.AppendAt
set_option linter.unusedVariables false
set_option linter.unusedSimpArgs false
namespace Go.Proofs.YtmjcnpolnknkkaaGreatDoor
open Go.RowKit

def four (a b c d : Int) : Nat → Int
  | 0 => a
  | 1 => b
  | 2 => c
  | _ => d
def mnG (g : Nat → Int) : Nat → Int
  | 0 => g 0
  | k + 1 => min (mnG g k) (g k)
def mxG (g : Nat → Int) : Nat → Int
  | 0 => g 0
  | k + 1 => max (mxG g k) (g k)
theorem mn_four (a b c d : Int) : mnG (four a b c d) 4 = min4 a b c d := by simp only [mnG, four, min4]; omega
theorem mx_four (a b c d : Int) : mxG (four a b c d) 4 = max4 a b c d := by simp only [mxG, four, max4]; omega
theorem dn_min4 (a b c d : Int) : dn (min4 a b c d) 1000 = min4 (dn a 1000) (dn b 1000) (dn c 1000) (dn d 1000) := by unfold min4 dn; omega
theorem up_max4 (a b c d : Int) : up (max4 a b c d) 1000 = max4 (up a 1000) (up b 1000) (up c 1000) (up d 1000) := by unfold max4 up; omega
theorem mn_bd {g : Nat → Int} {B : Int} (h : ∀ k, -B ≤ g k ∧ g k ≤ B) : ∀ k, (-B ≤ mnG g k ∧ mnG g k ≤ B) ∧ (-B ≤ mxG g k ∧ mxG g k ≤ B)
  | 0 => ⟨h 0, h 0⟩
  | k + 1 => by
    have := mn_bd h k
    have := h k
    simp only [mnG, mxG]
    omega
set_option maxRecDepth 100000 in
set_option maxHeartbeats 4000000 in
theorem rtimes_any (lo hi lo' hi' : Int) (w : World) (h1 : M lo) (h2 : M hi) (h3 : M lo') (h4 : M hi') :
    Calls Tryz.prog 9 #[.agg #[.int .i64 lo, .int .i64 hi], .agg #[.int .i64 lo', .int .i64 hi']] w (RetX rfR (prodF ⟨lo, hi⟩ ⟨lo', hi'⟩) w) := by
  obtain ⟨p1, q1⟩ := umul_bd h1 h3
  obtain ⟨p2, q2⟩ := umul_bd h1 h4
  obtain ⟨p3, q3⟩ := umul_bd h2 h3
  obtain ⟨p4, q4⟩ := umul_bd h2 h4
  have Hf := hid (show prodF ⟨lo, hi⟩ ⟨lo', hi'⟩ = fitsF ⟨dn (mnG (four (lo * lo') (lo * hi') (hi * lo') (hi * hi')) 4) 1000, up (mxG (four (lo * lo') (lo * hi') (hi * lo') (hi * hi')) 4) 1000⟩ by
    rw [mn_four, mx_four, dn_min4, up_max4]
    rfl)
  have Hg := hid (mn_bd (g := four (lo * lo') (lo * hi') (hi * lo') (hi * hi')) (B := 1000000000000000000) (fun k => by
    match k with
    | 0 => exact ⟨p1, q1⟩
    | 1 => exact ⟨p2, q2⟩
    | 2 => exact ⟨p3, q3⟩
    | k + 3 => exact ⟨p4, q4⟩))
  have Hb := hid (show ∀ k, -1000000000000000000 ≤ four (lo * lo') (lo * hi') (hi * lo') (hi * hi') k ∧ four (lo * lo') (lo * hi') (hi * lo') (hi * hi') k ≤ 1000000000000000000 from fun k => by
    match k with
    | 0 => exact ⟨p1, q1⟩
    | 1 => exact ⟨p2, q2⟩
    | 2 => exact ⟨p3, q3⟩
    | k + 3 => exact ⟨p4, q4⟩)
  have Hp0 := hid (show lo * lo' = four (lo * lo') (lo * hi') (hi * lo') (hi * hi') 0 from rfl)
  have Hp1 := hid (show lo * hi' = four (lo * lo') (lo * hi') (hi * lo') (hi * hi') 1 from rfl)
  have Hp2 := hid (show hi * lo' = four (lo * lo') (lo * hi') (hi * lo') (hi * hi') 2 from rfl)
  have Hp3 := hid (show hi * hi' = four (lo * lo') (lo * hi') (hi * lo') (hi * hi') 3 from rfl)
  have Hr := hid (fun u v W => rfits_any u v W)
  go_enter Tryz.func9, Tryz.ntmps9
  go_wp2
  go_loopw [7, 8, 9] (fun a b i wr => ∃ k : Nat, 1 ≤ k ∧ k ≤ 4 ∧ i = .int .i64 k ∧ a = .int .i64 (mnG (four (lo * lo') (lo * hi') (hi * lo') (hi * hi')) k) ∧ b = .int .i64 (mxG (four (lo * lo') (lo * hi') (hi * lo') (hi * hi')) k) ∧ Up w wr ∧
    (∀ j, j < 4 → wr.cell? ⟨w.heap.size + 1 + 1 + 1, j, none⟩ = some (.int .i64 (four (lo * lo') (lo * hi') (hi * lo') (hi * hi') j))) ∧ (Cf wr (w.heap.size + 1 + 1) 0 (.int .i64 0) ∧ Cf wr (w.heap.size + 1 + 1) 1 (.int .i64 0))) (fun _ _ i _ => 4 - (intOf i).toNat)
  case atStart =>
    refine ⟨1, by omega, by omega, rfl, ?_, ?_, ?_, ?_, ⟨by go_simp, by go_simp⟩, ⟨by go_simp, by go_simp⟩⟩
    · simp [mnG, four]
    · simp [mxG, four]
    · (repeat (first | (with_reducible exact Up.refl _) | (with_reducible assumption) | (with_reducible refine Up.alloc ?_ _) | (with_reducible refine Up.drew ?_) | ((with_reducible refine Up.set ?_ ?_ _); rotate_left; focus (first | omega | (simp; done) | (simp; omega))) | (with_reducible refine Up.drewN ?_ _) | (with_reducible refine Up.call ?_ (by with_reducible assumption))))
    · intro j hj
      match j, hj with
      | 0, _ => go_simp; rfl
      | 1, _ => go_simp; rfl
      | 2, _ => go_simp; rfl
      | 3, _ => go_simp; rfl
  case round =>
    obtain ⟨k, k1, k4, rfl, rfl, rfl, hU, hc, ⟨c2, g2⟩, ⟨c3, g3⟩⟩ := hrel
    clear p1 q1 p2 q2 p3 q3 p4 q4
    have l2 := World.block_lt_of_cell? wr _ c2
    dsimp only at l2
    by_cases hlt : k < 4
    · have ck := hc k hlt
      have Hc := hid hc; clear hc
      have hd : decide ((k : Int) < 4) = true := decide_eq_true (by omega)
      have hm1 : mnG (four (lo * lo') (lo * hi') (hi * lo') (hi * hi')) (k + 1) = min (mnG (four (lo * lo') (lo * hi') (hi * lo') (hi * hi')) k) (four (lo * lo') (lo * hi') (hi * lo') (hi * hi') k) := rfl
      have hm2 : mxG (four (lo * lo') (lo * hi') (hi * lo') (hi * hi')) (k + 1) = max (mxG (four (lo * lo') (lo * hi') (hi * lo') (hi * hi')) k) (four (lo * lo') (lo * hi') (hi * lo') (hi * hi') k) := rfl
      have Hm1 := hid hm1; have Hm2 := hid hm2; clear hm1 hm2
      have Hmk := hid (show mnG (four (lo * lo') (lo * hi') (hi * lo') (hi * hi')) k = mnG (four (lo * lo') (lo * hi') (hi * lo') (hi * hi')) k from rfl)
      generalize hu : mnG (four (lo * lo') (lo * hi') (hi * lo') (hi * hi')) k = u at *
      generalize hv : mxG (four (lo * lo') (lo * hi') (hi * lo') (hi * hi')) k = v at *
      generalize hn : four (lo * lo') (lo * hi') (hi * lo') (hi * hi') k = n at *
      clear hu hv hn Hmk
      rcases Int.lt_or_le n u with e1 | e1 <;> rcases Int.lt_or_le v n with e2 | e2
      all_goals
        go_wp2
        all_goals
          go_roundw
          case rel =>
            refine ⟨k + 1, by omega, by omega, by go_num, ?_, ?_, hU, Hc.out, ⟨c2, g2⟩, ⟨c3, g3⟩⟩
            · rw [Hm1.out]; first | (rw [Int.min_eq_right (by omega)]) | (rw [Int.min_eq_left (by omega)])
            · rw [Hm2.out]; first | (rw [Int.max_eq_right (by omega)]) | (rw [Int.max_eq_left (by omega)])
          case measure => simp [intOf]; omega
    · obtain rfl : k = 4 := by omega
      obtain ⟨⟨y1, y2⟩, ⟨y3, y4⟩⟩ := Hg.out 4
      have hF := Hf.out
      generalize mnG (four (lo * lo') (lo * hi') (hi * lo') (hi * hi')) 4 = u at *
      generalize mxG (four (lo * lo') (lo * hi') (hi * lo') (hi * hi')) 4 = v at *
      have HF := hid hF
      clear hF hc
      go_wp2_with (first
        | (go_at_call 37; refine (rfloor_any _ _ _ (by omega) (by omega) (by omega) (by omega)).mono ?_; rintro e w' ⟨rfl, rfl⟩)
        | (go_at_call 38; refine (rceil_any _ _ _ (by omega) (by omega) (by omega) (by omega)).mono ?_; rintro e w' ⟨rfl, rfl⟩)
        | ((go_at_call 36; refine (Hr.out _ _ _).mono ?_; rintro e w1 ⟨(n|s), hx, rfl, hb⟩) <;> obtain ⟨hc1, hf1⟩ := bcell hb))
      all_goals
        (refine bodyPost_res rfl ?_; simp only [results, Tryz.results9]; go_simp; refine resPost_ok ?_)
        first
          | refine RetX.mk (.error n) ?_ (HF.out.trans hx) rfl
          | refine RetX.mk (.ok s) ?_ (HF.out.trans hx) rfl
        (repeat (first | (with_reducible exact Up.refl _) | (with_reducible assumption) | (with_reducible refine Up.alloc ?_ _) | (with_reducible refine Up.drew ?_) | ((with_reducible refine Up.set ?_ ?_ _); rotate_left; focus (first | omega | (simp; done) | (simp; omega))) | (with_reducible refine Up.drewN ?_ _) | (with_reducible refine Up.call ?_ (by with_reducible assumption))))
theorem qdn_pos {x y : Int} (h : 0 < y) : qdn x y = dn (1000 * x) y := by unfold qdn; rw [if_neg (by omega), Int.mul_comm]
theorem qup_pos {x y : Int} (h : 0 < y) : qup x y = up (1000 * x) y := by unfold qup; rw [if_neg (by omega), Int.mul_comm]
theorem qdn_neg {x y : Int} (h : y < 0) : qdn x y = dn (-(1000 * x)) (-y) := by unfold qdn; rw [if_pos h, show -x * 1000 = -(1000 * x) by omega]
theorem qup_neg {x y : Int} (h : y < 0) : qup x y = up (-(1000 * x)) (-y) := by unfold qup; rw [if_pos h, show -x * 1000 = -(1000 * x) by omega]
set_option maxRecDepth 100000 in
set_option maxHeartbeats 4000000 in
theorem rby_any (lo hi lo' hi' : Int) (w : World) (h1 : M lo) (h2 : M hi) (h3 : M lo') (h4 : M hi') (h5 : lo' ≤ hi') :
    Calls Tryz.prog 13 #[.agg #[.int .i64 lo, .int .i64 hi], .agg #[.int .i64 lo', .int .i64 hi']] w (RetX rfR (quoF ⟨lo, hi⟩ ⟨lo', hi'⟩) w) := by
  cases hz : zeroF ⟨lo', hi'⟩ with
  | true =>
    have Hq := hid (show quoF ⟨lo, hi⟩ ⟨lo', hi'⟩ = .error 8 by unfold quoF; rw [if_pos hz])
    have Hz := hid hz; clear hz
    go_enter Tryz.func13, Tryz.ntmps13
    go_wp2_with ((go_at_call 43; refine (rzero_any _ _ _).mono ?_; rintro e w1 ⟨x, hx, rfl, hb1⟩; rw [Hz.out] at hx; subst hx) <;> (obtain ⟨hc1, hf1⟩ := bcell hb1; obtain ⟨_, _, _⟩ : w.heap.size < w1.heap.size ∧ w.heap.size + 1 < w1.heap.size ∧ w.heap.size + 1 + 1 < w1.heap.size := (by have hle := Up.le hb1; first | omega | (simp at hle; omega) | (simp at hle; done))))
    all_goals
      (refine bodyPost_res rfl ?_; simp only [results, Tryz.results13]; go_simp; refine resPost_ok ?_)
      refine RetX.mk (.error 8) ?_ Hq.out rfl
      (repeat (first | (with_reducible exact Up.refl _) | (with_reducible assumption) | (with_reducible refine Up.alloc ?_ _) | (with_reducible refine Up.drew ?_) | ((with_reducible refine Up.set ?_ ?_ _); rotate_left; focus (first | omega | (simp; done) | (simp; omega))) | (with_reducible refine Up.drewN ?_ _) | (with_reducible refine Up.call ?_ (by with_reducible assumption))))
  | false =>
    have hnz : ¬ (lo' ≤ 0 ∧ 0 ≤ hi') := by simp [zeroF] at hz; omega
    have hn1 : lo' ≠ 0 ∧ hi' ≠ 0 := by omega
    let xs := four lo lo hi hi
    let ys := four lo' hi' lo' hi'
    obtain ⟨g, hg⟩ : ∃ g : Nat → Int, ∀ k, g k = qdn (four lo lo hi hi k) (four lo' hi' lo' hi' k) := ⟨_, fun _ => rfl⟩
    obtain ⟨g', hg'⟩ : ∃ g : Nat → Int, ∀ k, g k = qup (four lo lo hi hi k) (four lo' hi' lo' hi' k) := ⟨_, fun _ => rfl⟩
    have hgf : g = four (qdn lo lo') (qdn lo hi') (qdn hi lo') (qdn hi hi') := by
      funext k
      rw [hg]
      match k with
      | 0 => rfl
      | 1 => rfl
      | 2 => rfl
      | k + 3 => rfl
    have hgf' : g' = four (qup lo lo') (qup lo hi') (qup hi lo') (qup hi hi') := by
      funext k
      rw [hg']
      match k with
      | 0 => rfl
      | 1 => rfl
      | 2 => rfl
      | k + 3 => rfl
    have Hf := hid (show quoF ⟨lo, hi⟩ ⟨lo', hi'⟩ = fitsF ⟨mnG g 4, mxG g' 4⟩ by
      rw [hgf, hgf', mn_four, mx_four]
      unfold quoF
      rw [if_neg (by rw [hz]; decide)]
      rfl)
    have HMx := hid (show ∀ k, M (four lo lo hi hi k) from fun k => by
      match k with
      | 0 => exact h1
      | 1 => exact h1
      | 2 => exact h2
      | k + 3 => exact h2)
    have HMy := hid (show ∀ k, M (four lo' hi' lo' hi' k) ∧ four lo' hi' lo' hi' k ≠ 0 from fun k => by
      match k with
      | 0 => exact ⟨h3, hn1.1⟩
      | 1 => exact ⟨h4, hn1.2⟩
      | 2 => exact ⟨h3, hn1.1⟩
      | k + 3 => exact ⟨h4, hn1.2⟩)
    have Hg := hid hg; have Hg' := hid hg'
    have Hz := hid hz
    have Hr := hid (fun u v W => rfits_any u v W)
    clear hz hnz hn1 hgf hgf' hg hg' xs ys
    go_enter Tryz.func13, Tryz.ntmps13
    go_wp2_with ((go_at_call 43; refine (rzero_any _ _ _).mono ?_; rintro e w1 ⟨x, hx, rfl, hb1⟩; rw [Hz.out] at hx; subst hx) <;> (obtain ⟨hc1, hf1⟩ := bcell hb1; obtain ⟨_, _, _⟩ : w.heap.size < w1.heap.size ∧ w.heap.size + 1 < w1.heap.size ∧ w.heap.size + 1 + 1 < w1.heap.size := (by have hle := Up.le hb1; first | omega | (simp at hle; omega) | (simp at hle; done))))
    go_loopw [10] (fun i wr => ∃ (k : Nat) (u v : Int), k ≤ 4 ∧ i = .int .i64 k ∧ Hid (0 < k → u = mnG g k ∧ v = mxG g' k) ∧ Up w wr ∧
      (∀ j, j < 4 → wr.cell? ⟨w1.heap.size, j, none⟩ = some (.int .i64 (four lo lo hi hi j))) ∧ (∀ j, j < 4 → wr.cell? ⟨w1.heap.size + 1, j, none⟩ = some (.int .i64 (four lo' hi' lo' hi' j))) ∧
      (Cf wr (w1.heap.size + 1 + 1) 0 (.int .i64 u) ∧ Cf wr (w1.heap.size + 1 + 1) 1 (.int .i64 v)) ∧ (Cf wr (w.heap.size + 1 + 1) 0 (.int .i64 0) ∧ Cf wr (w.heap.size + 1 + 1) 1 (.int .i64 0))) (fun i _ => 4 - (intOf i).toNat)
    case atStart =>
      refine ⟨0, 0, 0, by omega, rfl, fun h => absurd h (by decide), ?_, ?_, ?_, ⟨⟨by go_simp, by go_simp⟩, ⟨by go_simp, by go_simp⟩⟩, ⟨⟨by go_simp, by go_simp⟩, ⟨by go_simp, by go_simp⟩⟩⟩
      · (repeat (first | (with_reducible exact Up.refl _) | (with_reducible assumption) | (with_reducible refine Up.alloc ?_ _) | (with_reducible refine Up.drew ?_) | ((with_reducible refine Up.set ?_ ?_ _); rotate_left; focus (first | omega | (simp; done) | (simp; omega))) | (with_reducible refine Up.drewN ?_ _) | (with_reducible refine Up.call ?_ (by with_reducible assumption))))
      · intro j hj
        match j, hj with
        | 0, _ => go_simp; rfl
        | 1, _ => go_simp; rfl
        | 2, _ => go_simp; rfl
        | 3, _ => go_simp; rfl
      · intro j hj
        match j, hj with
        | 0, _ => go_simp; rfl
        | 1, _ => go_simp; rfl
        | 2, _ => go_simp; rfl
        | 3, _ => go_simp; rfl
    case round =>
      obtain ⟨k, u, v, k4, rfl, Hi, hU, hcx, hcy, ⟨⟨c0, g0⟩, ⟨c1, g1⟩⟩, ⟨⟨c2, g2⟩, ⟨c3, g3⟩⟩⟩ := hrel
      have l0 := World.block_lt_of_cell? wr _ c0
      have l2 := World.block_lt_of_cell? wr _ c2
      dsimp only at l0 l2
      by_cases hlt : k < 4
      · have ckx := hcx k hlt
        have cky := hcy k hlt
        have Hcx := hid hcx; have Hcy := hid hcy; clear hcx hcy
        have hd : decide ((k : Int) < 4) = true := decide_eq_true (by omega)
        obtain ⟨x1, x2⟩ := HMx.out k
        obtain ⟨⟨y1, y2⟩, y3⟩ := HMy.out k
        have hq := Hg.out k
        have hq' := Hg'.out k
        have Hm1 := hid (show mnG g (k + 1) = min (mnG g k) (g k) from rfl)
        have Hm2 := hid (show mxG g' (k + 1) = max (mxG g' k) (g' k) from rfl)
        have Hk0 := hid (show k = 0 → mnG g (k + 1) = g k ∧ mxG g' (k + 1) = g' k from fun h => by subst h; exact ⟨by simp [mnG], by simp [mxG]⟩)
        generalize four lo lo hi hi k = x at *
        generalize four lo' hi' lo' hi' k = y at *
        have Hq := hid hq; have Hq' := hid hq'
        clear hq hq'
        rcases Int.lt_or_lt_of_ne y3 with hy | hy
        · have hdy : decide (y < 0) = true := decide_eq_true hy
          have E1 := hid (show dn (-(1000 * x)) (-y) = g k from by rw [Hq.out, qdn_neg hy])
          have E2 := hid (show up (-(1000 * x)) (-y) = g' k from by rw [Hq'.out, qup_neg hy])
          generalize g k = n at *
          generalize g' k = n' at *
          by_cases hk0 : k = 0
          · subst hk0
            have hd0 : ((((0 : Nat) : Int)) == 0) = true := rfl
            obtain ⟨hk1, hk2⟩ := Hk0.out rfl
            have Hk1 := hid hk1; have Hk2 := hid hk2; clear hk1 hk2
            go_wp2_with (first
              | ((go_at_call 37; refine (rfloor_any _ _ _ (by omega) (by omega) (by omega) (by omega)).mono ?_; rintro e w' ⟨rfl, rfl⟩); rw [E1.out])
              | ((go_at_call 38; refine (rceil_any _ _ _ (by omega) (by omega) (by omega) (by omega)).mono ?_; rintro e w' ⟨rfl, rfl⟩); rw [E2.out]))
            all_goals
              go_roundw
              case rel =>
                refine ⟨1, n, n', by omega, by go_num, fun _ => ⟨Hk1.out.symm, Hk2.out.symm⟩, ?_, fun j hj => ?_, fun j hj => ?_, ⟨⟨?_, by go_simp⟩, ⟨?_, by go_simp⟩⟩, ⟨⟨by go_simp, by go_simp⟩, ⟨by go_simp, by go_simp⟩⟩⟩
                · (repeat (first | (with_reducible exact Up.refl _) | (with_reducible assumption) | (with_reducible refine Up.alloc ?_ _) | (with_reducible refine Up.drew ?_) | ((with_reducible refine Up.set ?_ ?_ _); rotate_left; focus (first | omega | (simp; done) | (simp; omega))) | (with_reducible refine Up.drewN ?_ _) | (with_reducible refine Up.call ?_ (by with_reducible assumption))))
                · have := Hcx.out j hj; go_simp
                · have := Hcy.out j hj; go_simp
                · go_simp
                · go_simp
              case measure => simp [intOf]
          · have hd0 : (((k : Int)) == 0) = false := beq_eq_false_iff_ne.2 (by omega)
            obtain ⟨hi1, hi2⟩ := Hi.out (by omega)
            rcases Int.lt_or_le n u with e1 | e1 <;> rcases Int.lt_or_le v n' with e2 | e2
            all_goals
              go_wp2_with (first
                | ((go_at_call 37; refine (rfloor_any _ _ _ (by omega) (by omega) (by omega) (by omega)).mono ?_; rintro e w' ⟨rfl, rfl⟩); rw [E1.out])
                | ((go_at_call 38; refine (rceil_any _ _ _ (by omega) (by omega) (by omega) (by omega)).mono ?_; rintro e w' ⟨rfl, rfl⟩); rw [E2.out]))
              all_goals
                go_roundw
                case rel =>
                  refine ⟨k + 1, min u n, max v n', by omega, by go_num, fun _ => ?_, ?_, fun j hj => ?_, fun j hj => ?_, ⟨⟨?_, by go_simp⟩, ⟨?_, by go_simp⟩⟩, ⟨⟨by go_simp, by go_simp⟩, ⟨by go_simp, by go_simp⟩⟩⟩
                  · rw [Hm1.out, Hm2.out, ← hi1, ← hi2]; exact ⟨rfl, rfl⟩
                  · (repeat (first | (with_reducible exact Up.refl _) | (with_reducible assumption) | (with_reducible refine Up.alloc ?_ _) | (with_reducible refine Up.drew ?_) | ((with_reducible refine Up.set ?_ ?_ _); rotate_left; focus (first | omega | (simp; done) | (simp; omega))) | (with_reducible refine Up.drewN ?_ _) | (with_reducible refine Up.call ?_ (by with_reducible assumption))))
                  · have := Hcx.out j hj; go_simp
                  · have := Hcy.out j hj; go_simp
                  · first | rw [Int.min_eq_right (by omega)] | rw [Int.min_eq_left (by omega)]
                    go_simp
                  · first | rw [Int.max_eq_right (by omega)] | rw [Int.max_eq_left (by omega)]
                    go_simp
                case measure => simp [intOf]; omega
        · have hdy : decide (y < 0) = false := decide_eq_false (by omega)
          have E1 := hid (show dn (1000 * x) y = g k from by rw [Hq.out, qdn_pos hy])
          have E2 := hid (show up (1000 * x) y = g' k from by rw [Hq'.out, qup_pos hy])
          generalize g k = n at *
          generalize g' k = n' at *
          by_cases hk0 : k = 0
          · subst hk0
            have hd0 : ((((0 : Nat) : Int)) == 0) = true := rfl
            obtain ⟨hk1, hk2⟩ := Hk0.out rfl
            have Hk1 := hid hk1; have Hk2 := hid hk2; clear hk1 hk2
            go_wp2_with (first
              | ((go_at_call 37; refine (rfloor_any _ _ _ (by omega) (by omega) (by omega) (by omega)).mono ?_; rintro e w' ⟨rfl, rfl⟩); rw [E1.out])
              | ((go_at_call 38; refine (rceil_any _ _ _ (by omega) (by omega) (by omega) (by omega)).mono ?_; rintro e w' ⟨rfl, rfl⟩); rw [E2.out]))
            all_goals
              go_roundw
              case rel =>
                refine ⟨1, n, n', by omega, by go_num, fun _ => ⟨Hk1.out.symm, Hk2.out.symm⟩, ?_, fun j hj => ?_, fun j hj => ?_, ⟨⟨?_, by go_simp⟩, ⟨?_, by go_simp⟩⟩, ⟨⟨by go_simp, by go_simp⟩, ⟨by go_simp, by go_simp⟩⟩⟩
                · (repeat (first | (with_reducible exact Up.refl _) | (with_reducible assumption) | (with_reducible refine Up.alloc ?_ _) | (with_reducible refine Up.drew ?_) | ((with_reducible refine Up.set ?_ ?_ _); rotate_left; focus (first | omega | (simp; done) | (simp; omega))) | (with_reducible refine Up.drewN ?_ _) | (with_reducible refine Up.call ?_ (by with_reducible assumption))))
                · have := Hcx.out j hj; go_simp
                · have := Hcy.out j hj; go_simp
                · go_simp
                · go_simp
              case measure => simp [intOf]
          · have hd0 : (((k : Int)) == 0) = false := beq_eq_false_iff_ne.2 (by omega)
            obtain ⟨hi1, hi2⟩ := Hi.out (by omega)
            rcases Int.lt_or_le n u with e1 | e1 <;> rcases Int.lt_or_le v n' with e2 | e2
            all_goals
              go_wp2_with (first
                | ((go_at_call 37; refine (rfloor_any _ _ _ (by omega) (by omega) (by omega) (by omega)).mono ?_; rintro e w' ⟨rfl, rfl⟩); rw [E1.out])
                | ((go_at_call 38; refine (rceil_any _ _ _ (by omega) (by omega) (by omega) (by omega)).mono ?_; rintro e w' ⟨rfl, rfl⟩); rw [E2.out]))
              all_goals
                go_roundw
                case rel =>
                  refine ⟨k + 1, min u n, max v n', by omega, by go_num, fun _ => ?_, ?_, fun j hj => ?_, fun j hj => ?_, ⟨⟨?_, by go_simp⟩, ⟨?_, by go_simp⟩⟩, ⟨⟨by go_simp, by go_simp⟩, ⟨by go_simp, by go_simp⟩⟩⟩
                  · rw [Hm1.out, Hm2.out, ← hi1, ← hi2]; exact ⟨rfl, rfl⟩
                  · (repeat (first | (with_reducible exact Up.refl _) | (with_reducible assumption) | (with_reducible refine Up.alloc ?_ _) | (with_reducible refine Up.drew ?_) | ((with_reducible refine Up.set ?_ ?_ _); rotate_left; focus (first | omega | (simp; done) | (simp; omega))) | (with_reducible refine Up.drewN ?_ _) | (with_reducible refine Up.call ?_ (by with_reducible assumption))))
                  · have := Hcx.out j hj; go_simp
                  · have := Hcy.out j hj; go_simp
                  · first | rw [Int.min_eq_right (by omega)] | rw [Int.min_eq_left (by omega)]
                    go_simp
                  · first | rw [Int.max_eq_right (by omega)] | rw [Int.max_eq_left (by omega)]
                    go_simp
                case measure => simp [intOf]; omega
      · obtain rfl : k = 4 := by omega
        obtain ⟨rfl, rfl⟩ := Hi.out (by decide)
        have HF := hid Hf.out
        go_wp2_with ((go_at_call 36; refine (Hr.out _ _ _).mono ?_; rintro e w2 ⟨(n|s), hx, rfl, hb⟩) <;> obtain ⟨hc2, hf2⟩ := bcell hb)
        all_goals
          (refine bodyPost_res rfl ?_; simp only [results, Tryz.results13]; go_simp; refine resPost_ok ?_)
          first
            | refine RetX.mk (.error n) ?_ (HF.out.trans hx) rfl
            | refine RetX.mk (.ok s) ?_ (HF.out.trans hx) rfl
          (repeat (first | (with_reducible exact Up.refl _) | (with_reducible assumption) | (with_reducible refine Up.alloc ?_ _) | (with_reducible refine Up.drew ?_) | ((with_reducible refine Up.set ?_ ?_ _); rotate_left; focus (first | omega | (simp; done) | (simp; omega))) | (with_reducible refine Up.drewN ?_ _) | (with_reducible refine Up.call ?_ (by with_reducible assumption))))
end Go.Proofs.YtmjcnpolnknkkaaGreatDoor

namespace Go.Proofs.YtmjcnpolnknkkaaGreatDoor
open Go.RowKit

def ilN (w : World) : Except Nat (List Int) → Value → Prop
  | .ok l, v => ∃ A c, v = .tuple #[.slice A l.length c, .int .i64 0] ∧ RdI w A l ∧ l.length ≤ c
  | .error n, v => v = .tuple #[.slice none 0 0, .int .i64 n]
theorem ilN_error {w : World} {n : Nat} {v : Value} (h : ilN w (.error n) v) : v = .tuple #[.slice none 0 0, .int .i64 n] := h
theorem ilN_ok {w : World} {l : List Int} {v : Value} (h : ilN w (.ok l) v) : ∃ A c, v = .tuple #[.slice A l.length c, .int .i64 0] ∧ RdI w A l ∧ l.length ≤ c := h
set_option maxRecDepth 100000 in
set_option maxHeartbeats 2000000 in
theorem rderive_any (A : Option Addr) (p : List Int) (c : Nat) (w : World) (h0 : 0 < p.length) (h5 : p.length ≤ 5) (hr : RdI w A p) (hp : ∀ n ∈ p, M n) :
    Calls Tryz.prog 140 #[.slice A p.length c] w (RetR ilN (slopeF p) w) := by
  obtain ⟨b, o, rfl, hb, hc⟩ := hr (by intro h; simp [h] at h0)
  by_cases h1 : p.length = 1
  · rw [slope_one h1, h1]
    clear hc
    go_enter Tryz.func140, Tryz.ntmps140
    go_wp2
    go_ret2
    refine RetR.mk (.ok [0] : Except Nat (List Int)) ?_ rfl (rel := ilN) ⟨_, 1, rfl, fun _ => ⟨w.heap.size, 0, rfl, by simp, fun k hk => ?_⟩, by simp⟩
    · (repeat (first | (with_reducible exact Up.refl _) | (with_reducible assumption) | (with_reducible refine Up.alloc ?_ _) | (with_reducible refine Up.drew ?_) | ((with_reducible refine Up.set ?_ ?_ _); rotate_left; focus (first | omega | (simp; done) | (simp; omega))) | (with_reducible refine Up.drewN ?_ _) | (with_reducible refine Up.call ?_ (by with_reducible assumption))))
    · obtain rfl : k = 0 := by simpa using hk
      go_simp
  · rw [slope_more h1]
    obtain ⟨i0, hi0, hz0, hz1, hz2⟩ := info_parts Tryz.infoInt
    have hd1 : ((p.length : Int) == 1) = false := beq_eq_false_iff_ne.2 (by omega)
    have Hc := hid hc; clear hc
    go_enter Tryz.func140, Tryz.ntmps140
    go_wp2
    go_loopw [4, 5] (fun v i wr => ∃ (m : Nat) (L : List Int), 1 ≤ m ∧ m ≤ p.length ∧ i = .int .i64 m ∧ Hid (L.length + 1 = m) ∧ wr.ownsRow w.heap.size 3 1 v L.length (ints L) ∧ Up w wr ∧ Hid (preL [] (slopeG 1 (p.drop 1)) = preL L (slopeG m (p.drop m)))) (fun _ i _ => p.length - (intOf i).toNat)
    case atStart => exact ⟨1, [], by omega, by omega, rfl, rfl, World.ownsRow_nil _ _ _ _, Up.refl _, rfl⟩
    case round =>
      obtain ⟨m, L, hm1, hmp, rfl, HL, hown, hU, H⟩ := hrel
      by_cases hlt : m < p.length
      · have hd : decide ((m : Int) < (p.length : Int)) = true := by simp; omega
        have hml : (m : Int) < (p.length : Int) := by omega
        have hck : wr.cell? ⟨b, o + m, none⟩ = some (.int .i64 (p[m]?.getD 0)) := (Below.cell hU (p := ⟨b, o + m, none⟩) hb).trans (Hc.out m hlt)
        have hn : M (p[m]?.getD 0) := M_getD hp m
        have Hdr := hid (getD_drop p m hlt)
        generalize p[m]?.getD 0 = n at *
        obtain ⟨n1, n2⟩ := hn
        have n3 : -5000000000 ≤ n * (m : Int) ∧ n * (m : Int) ≤ 5000000000 := by
          have hk4 : m = 1 ∨ m = 2 ∨ m = 3 ∨ m = 4 := by omega
          rcases hk4 with rfl | rfl | rfl | rfl <;> simp <;> omega
        obtain ⟨n4, n5⟩ := n3
        have HL4 := hid (show L.length ≤ 4 by have := HL.out; omega)
        cases hm : mayB (n * (m : Int)) with
        | false =>
          have Hm := hid hm; clear hm
          go_wp2_with ((go_at_call 8; refine (rmay_any _ _).mono ?_; rintro e w' ⟨rfl, rfl⟩); rw [Hm.out])
          go_ret2
          refine RetR.mk (.error 4 : Except Nat (List Int)) hU ?_ (rel := ilN) rfl
          rw [H.out, Hdr.out]
          exact slopeG_bad (fun h => mayB_false.1 Hm.out h)
        | true =>
          have Hm := hid hm; clear hm
          go_wp2_with (first
            | ((go_at_call 8; refine (rmay_any _ _).mono ?_; rintro e w' ⟨rfl, rfl⟩); rw [Hm.out])
            | (at_builtin; refine wpList_append_own_at _ rfl (.tmp 28) (.tmp 30) _ rfl w.heap.size 3 i0 (.int .i64 0) 1 8 Tryz.underlying71 hi0 hz0 hz1 hz2 rfl (by decide) _ _ _ rfl (hown.alloc _) ⟨wr.heap.size, 0, none⟩ 1 1 [.int .i64 (n * (m : Int))] rfl rfl (cell_one_new _ _ _) (by simp [Value.oneCell']) (by have := HL4.out; unfold maxLen; omega) (by have := HL4.out; omega) (by have := hU.le; simp; omega) ?_; intro v8 w1 own8 g8 _ at8))
          go_roundw
          case rel =>
            refine ⟨m + 1, L ++ [n * (m : Int)], by omega, by omega, by go_num, ?_, ?_, ?_, ?_⟩
            · show _ = _
              have := HL.out; simp; omega
            · rw [ints_snoc] at own8; simpa using own8
            · exact Below.grown (hU.alloc _) g8 (hU.alloc _).le (fun j hj => (hown.lt j hj).1)
            · show _ = _
              rw [H.out, Hdr.out]
              exact slopeG_ok (mayB_true.1 Hm.out)
          case measure => simp [intOf]; omega
      · obtain rfl : m = p.length := by omega
        obtain ⟨g, cp, hv, _, hg⟩ := own_form hown (by have := HL.out; omega)
        have hcp : L.length ≤ cp := by
          rcases hown.2 with ⟨_, h⟩ | ⟨g', cap', cur, hv', _, _, hle, _⟩
          · have := HL.out; omega
          · rw [hv] at hv'; injection hv' with _ _ e3; omega
        have hrd := rdi_own hown hv hg
        rw [hv]
        have Hrd := hid hrd
        clear hown hv hrd
        go_wp2
        go_ret2
        refine RetR.mk (.ok L : Except Nat (List Int)) hU ?_ (rel := ilN) ⟨some ⟨g, 0, none⟩, cp, rfl, Hrd.out, hcp⟩
        rw [H.out, List.drop_length]
        simp [slopeG, preL]
end Go.Proofs.YtmjcnpolnknkkaaGreatDoor
