/- LogMany: a log takes twenty boxes, and no more. -/
import Derived.Test.YtopgjbjpmnlldaaDoorLogc
import Derived.Test.YtopgjbjpmnlldaaDoorSerr

set_option linter.unusedVariables false
set_option linter.unusedSimpArgs false
namespace Go.Proofs.YtopgjbjpmnlldaaDoor
open Go.ChangeShapes Go.WideShapes Go.ChangeAt Go.RowKit Go.Joins Go.Deep

theorem put_one (g : Nat) (v : Value) (l : Lg) (lo hi : Int) (bk : Nat) (w : World) (h : LogS w g v l) (h0 : w.cell? ⟨bk, 0, none⟩ = some (.int .i64 lo)) (h1 : w.cell? ⟨bk, 1, none⟩ = some (.int .i64 hi)) (hne : bk ≠ g) (hp : Pow w) :
    Calls Tryd.prog 13 #[.pointer (some ⟨g, 0, none⟩), .slice (some ⟨bk, 0, none⟩) 1 1] w (RetL g v w (errV (putF l [⟨lo, hi⟩]).1) (putF l [⟨lo, hi⟩]).2) :=
  put_any g v l (some ⟨bk, 0, none⟩) [⟨lo, hi⟩] 1 w h (rds1 h0 h1) (fun k o e => by injection e with e; injection e with e; omega) hp
theorem put_oneR (g : Nat) (v : Value) (l : Lg) (lo hi : Int) (bk : Nat) (w : World) {r : Option Nat} {l' : Lg} (hr : putF l [⟨lo, hi⟩] = (r, l')) (h : LogS w g v l) (h0 : w.cell? ⟨bk, 0, none⟩ = some (.int .i64 lo)) (h1 : w.cell? ⟨bk, 1, none⟩ = some (.int .i64 hi)) (hne : bk ≠ g) (hp : Pow w) :
    Calls Tryd.prog 13 #[.pointer (some ⟨g, 0, none⟩), .slice (some ⟨bk, 0, none⟩) 1 1] w (RetL g v w (errV r) l') := by
  have := put_one g v l lo hi bk w h h0 h1 hne hp
  rw [hr] at this
  exact this
def boxesTo (n : Nat) : List (List Sp) := (List.range n).map fun (i : Nat) => [(⟨(i : Int), (i : Int)⟩ : Sp)]
def manyL : Nat → Lg
  | 0 => newF 1
  | k + 1 => (putF (manyL k) [⟨k, k⟩]).2
theorem one_ok {k : Nat} (hk : k ≤ 30) : bcheckF [(⟨(k : Int), (k : Int)⟩ : Sp)] = none := by
  have h : Bx [(⟨(k : Int), (k : Int)⟩ : Sp)] := ⟨by simp, by simp, fun p hp => by
    simp only [List.mem_singleton] at hp; subst hp
    exact ⟨⟨by dsimp only; omega, by dsimp only; omega⟩, ⟨by dsimp only; omega, by dsimp only; omega⟩, Int.le_refl _⟩⟩
  exact h.check
theorem many_is : ∀ k, k ≤ 30 → (manyL k).stopped = false ∧ (manyL k).left = -1 ∧ (manyL k).sides = 1 ∧ (manyL k).all = boxesTo (min k 20)
  | 0, _ => ⟨rfl, rfl, rfl, rfl⟩
  | k + 1, hk => by
    obtain ⟨h1, h2, h3, h4⟩ := many_is k (by omega)
    have hl : (manyL k).all.length = min k 20 := by rw [h4]; simp [boxesTo]
    rcases put_cases (manyL k) [⟨k, k⟩] with ⟨hs, e⟩ | ⟨hs, hf, e⟩ | ⟨hs, hf, ⟨n, hc, e⟩ | ⟨hc, ⟨hn, e⟩ | ⟨hn, ⟨h0, e⟩ | ⟨h0, e⟩⟩⟩⟩
    · rw [h1] at hs; cases hs
    · have e2 : manyL (k + 1) = manyL k := by show (putF _ _).2 = _; rw [e]
      rw [e2]
      refine ⟨h1, h2, h3, ?_⟩
      rw [h4]
      have : min (k + 1) 20 = min k 20 := by omega
      rw [this]
    · rw [one_ok (by omega)] at hc; cases hc
    · rw [h3] at hn; exact absurd rfl hn
    · rw [h2] at h0; cases h0
    · have e2 : manyL (k + 1) = { stepF (manyL k) with recs := (manyL k).recs ++ [recN [⟨k, k⟩]], all := (manyL k).all ++ [[⟨k, k⟩]] } := by show (putF _ _).2 = _; rw [e]
      rw [e2]
      refine ⟨by simp [stepF, h2], by simp only [stepF, h2]; decide, h3, ?_⟩
      show (manyL k).all ++ [[⟨k, k⟩]] = _
      rw [h4]
      have e5 : min (k + 1) 20 = k + 1 := by omega
      have e6 : min k 20 = k := by omega
      rw [e5, e6]
      simp [boxesTo, List.range_succ]
theorem many_put {k : Nat} (hk : k < 30) : (k < 20 ∧ putF (manyL k) [⟨k, k⟩] = (none, manyL (k + 1))) ∨ (20 ≤ k ∧ putF (manyL k) [⟨k, k⟩] = (some 4, manyL (k + 1))) := by
  obtain ⟨h1, h2, h3, h4⟩ := many_is k (by omega)
  have hl : (manyL k).all.length = min k 20 := by rw [h4]; simp [boxesTo]
  have e2 : manyL (k + 1) = (putF (manyL k) [⟨k, k⟩]).2 := rfl
  rcases put_cases (manyL k) [⟨k, k⟩] with ⟨hs, e⟩ | ⟨hs, hf, e⟩ | ⟨hs, hf, ⟨n, hc, e⟩ | ⟨hc, ⟨hn, e⟩ | ⟨hn, ⟨h0, e⟩ | ⟨h0, e⟩⟩⟩⟩
  · rw [h1] at hs; cases hs
  · exact .inr ⟨by omega, by rw [e2, e]⟩
  · rw [one_ok (by omega)] at hc; cases hc
  · rw [h3] at hn; exact absurd rfl hn
  · rw [h2] at h0; cases h0
  · exact .inl ⟨by omega, by rw [e2, e]⟩
theorem boxes_hull : ∀ n : Nat, hullG [⟨0, 0⟩] (boxesTo (n + 1)) = [⟨0, (n : Int)⟩]
  | 0 => rfl
  | n + 1 => by
    have e : boxesTo (n + 1 + 1) = boxesTo (n + 1) ++ [[⟨((n + 1 : Nat) : Int), ((n + 1 : Nat) : Int)⟩]] := by simp [boxesTo, List.range_succ]
    have h := boxes_hull n
    unfold hullG at *
    rw [e, List.foldl_append, h]
    simp [bbothF, bothF]
    omega
theorem boxes_hullF (n : Nat) : hullF (boxesTo (n + 1)) = .ok [⟨0, (n : Int)⟩] := by
  have e : boxesTo (n + 1) = [⟨0, 0⟩] :: (boxesTo (n + 1)).tail := by
    unfold boxesTo
    rw [List.range_succ_eq_map]
    rfl
  rw [e]
  show Except.ok (hullG [⟨0, 0⟩] ([⟨0, 0⟩] :: (boxesTo (n + 1)).tail)) = _
  rw [← e, boxes_hull]
theorem many_text : (manyL 0).text = [] := rfl

set_option maxRecDepth 100000 in
set_option maxHeartbeats 4000000 in
theorem logMany_walk (n : Int) (w : World) (_h : I64 n) (hd : Door4 w) : Calls Tryd.prog 4 #[.int .i64 n] w (LawEnd w) := by
  clear _h
  have HD := hid hd.1; have HP := hid hd.2
  have HNW := hid (fun W => new_good 1 W (by omega) (by omega))
  clear hd
  have hor : (decide (n < 0) = true) ∨ (decide (n < 0) = false ∧ decide (30 < n) = true) ∨ (decide (n < 0) = false ∧ decide (30 < n) = false) := by
    by_cases q1 : n < 0 <;> by_cases q2 : 30 < n <;> simp only [q1, q2, decide_true, decide_false] <;> simp
  rcases hor with d1 | ⟨d1, d2⟩ | ⟨d1, d2⟩
  rotate_left 2
  · have q1 : ¬ (n < 0) := by simpa using d1
    have q2 : ¬ (30 < n) := by simpa using d2
    obtain ⟨m, rfl⟩ : ∃ m : Nat, n = m := ⟨n.toNat, by omega⟩
    have Hm := hid (show m ≤ 30 by omega)
    clear q1 q2
    go_enter Tryd.func4, Tryd.ntmps4
    go_wp2_with (first
                        | ((go_at_call 12; (with_reducible refine (HNW.out _).mono ?_); rintro e w1 ⟨rfl, hl1, hb1⟩ <;> (have HL1 := hid hl1; clear hl1)) <;> (have hle := Up.le hb1; (try simp only [World.size_alloc, World.size_setCell, World.size_drew, World.heap_drewN] at hle); clear hle)))
    go_loopw [5, 6] (fun i u wr => ∃ (k : Nat) (v : Value), k ≤ m ∧ i = .int .i64 k ∧ Hid (LogS wr w.heap.size v (manyL k)) ∧ Up w wr) (fun i _ _ => m - (intOf i).toNat)
    case atStart => exact ⟨0, _, by omega, rfl, HL1.out, hb1⟩
    case round =>
      obtain ⟨k, v, hk, rfl, HL, hU⟩ := hrel
      have hle := hU.le
      have hlg := HL.out.lt
      have h30 := Hm.out
      by_cases hlt : k < m
      · have hkm : (k : Int) < (m : Int) := by omega
        have hk9 : (k : Int) < 30 := by omega
        have hk0 : (0 : Int) ≤ (k : Int) := by omega
        have hdk : decide ((k : Int) < (m : Int)) = true := by simp; omega
        have Hlt := hid hlt
        rcases many_put (k := k) (by omega) with ⟨hk20, hp⟩ | ⟨hk20, hp⟩
        · have hd20 : decide ((k : Int) < 20) = true := decide_eq_true (by omega)
          have Hp := hid hp
          clear hp hlt hk20
          go_wp2_with (first
                        | ((go_at_call 13; (with_reducible refine (put_oneR w.heap.size v (manyL k) k k _ _ Hp.out (HL.out.up (by (repeat (first | (with_reducible exact Up.refl _) | (with_reducible assumption) | (with_reducible refine Up.alloc ?_ _) | (with_reducible refine Up.drew ?_) | ((with_reducible refine Up.set ?_ ?_ _); rotate_left; focus (first | omega | (simp; done) | (simp; omega))) | (with_reducible refine Up.drewN ?_ _) | (with_reducible refine Up.call ?_ (by with_reducible assumption)))))) (by go_simp) (by go_simp) (by omega) (HP.out.up (by (repeat (first | (with_reducible exact Up.refl _) | (with_reducible assumption) | (with_reducible refine Up.alloc ?_ _) | (with_reducible refine Up.drew ?_) | ((with_reducible refine Up.set ?_ ?_ _); rotate_left; focus (first | omega | (simp; done) | (simp; omega))) | (with_reducible refine Up.drewN ?_ _) | (with_reducible refine Up.call ?_ (by with_reducible assumption))))))).mono ?_); rintro e w2 ⟨v2, rfl, hl2, hm2, hv2⟩ <;> (have hb2 : Up w w2 := hm2.below (by (repeat (first | (with_reducible exact Up.refl _) | (with_reducible assumption) | (with_reducible refine Up.alloc ?_ _) | (with_reducible refine Up.drew ?_) | ((with_reducible refine Up.set ?_ ?_ _); rotate_left; focus (first | omega | (simp; done) | (simp; omega))) | (with_reducible refine Up.drewN ?_ _) | (with_reducible refine Up.call ?_ (by with_reducible assumption))))) (Nat.le_refl _) (fun j hj => by have := (HL.out.gt j hj).1; omega); have HL2 := hid hl2; clear hl2 hm2 hv2)) <;> (have hle := Up.le hb2; (try simp only [World.size_alloc, World.size_setCell, World.size_drew, World.heap_drewN] at hle); clear hle)))
          go_roundw
          case rel => exact ⟨k + 1, v2, by have := Hlt.out; omega, by go_num, HL2.out, hb2⟩
          case measure => have := Hlt.out; simp [intOf]; omega
        · have hd20 : decide ((k : Int) < 20) = false := decide_eq_false (by omega)
          have Hp := hid hp
          clear hp hlt hk20
          go_wp2_with (first
                        | ((go_at_call 13; (with_reducible refine (put_oneR w.heap.size v (manyL k) k k _ _ Hp.out (HL.out.up (by (repeat (first | (with_reducible exact Up.refl _) | (with_reducible assumption) | (with_reducible refine Up.alloc ?_ _) | (with_reducible refine Up.drew ?_) | ((with_reducible refine Up.set ?_ ?_ _); rotate_left; focus (first | omega | (simp; done) | (simp; omega))) | (with_reducible refine Up.drewN ?_ _) | (with_reducible refine Up.call ?_ (by with_reducible assumption)))))) (by go_simp) (by go_simp) (by omega) (HP.out.up (by (repeat (first | (with_reducible exact Up.refl _) | (with_reducible assumption) | (with_reducible refine Up.alloc ?_ _) | (with_reducible refine Up.drew ?_) | ((with_reducible refine Up.set ?_ ?_ _); rotate_left; focus (first | omega | (simp; done) | (simp; omega))) | (with_reducible refine Up.drewN ?_ _) | (with_reducible refine Up.call ?_ (by with_reducible assumption))))))).mono ?_); rintro e w2 ⟨v2, rfl, hl2, hm2, hv2⟩ <;> (have hb2 : Up w w2 := hm2.below (by (repeat (first | (with_reducible exact Up.refl _) | (with_reducible assumption) | (with_reducible refine Up.alloc ?_ _) | (with_reducible refine Up.drew ?_) | ((with_reducible refine Up.set ?_ ?_ _); rotate_left; focus (first | omega | (simp; done) | (simp; omega))) | (with_reducible refine Up.drewN ?_ _) | (with_reducible refine Up.call ?_ (by with_reducible assumption))))) (Nat.le_refl _) (fun j hj => by have := (HL.out.gt j hj).1; omega); have HL2 := hid hl2; clear hl2 hm2 hv2)) <;> (have hle := Up.le hb2; (try simp only [World.size_alloc, World.size_setCell, World.size_drew, World.heap_drewN] at hle); clear hle))
                        | ((go_at_call 10; (with_reducible refine (serr_self 4 _ (HD.out.up (by (repeat (first | (with_reducible exact Up.refl _) | (with_reducible assumption) | (with_reducible refine Up.alloc ?_ _) | (with_reducible refine Up.drew ?_) | ((with_reducible refine Up.set ?_ ?_ _); rotate_left; focus (first | omega | (simp; done) | (simp; omega))) | (with_reducible refine Up.drewN ?_ _) | (with_reducible refine Up.call ?_ (by with_reducible assumption))))))).mono ?_); rintro e w3 ⟨rfl, hb3⟩) <;> (have hle := Up.le hb3; (try simp only [World.size_alloc, World.size_setCell, World.size_drew, World.heap_drewN] at hle); clear hle)))
          go_roundw
          case rel => exact ⟨k + 1, v2, by have := Hlt.out; omega, by go_num, HL2.out.up hb3, by (repeat (first | (with_reducible exact Up.refl _) | (with_reducible assumption) | (with_reducible refine Up.alloc ?_ _) | (with_reducible refine Up.drew ?_) | ((with_reducible refine Up.set ?_ ?_ _); rotate_left; focus (first | omega | (simp; done) | (simp; omega))) | (with_reducible refine Up.drewN ?_ _) | (with_reducible refine Up.call ?_ (by with_reducible assumption))))⟩
          case measure => have := Hlt.out; simp [intOf]; omega
      · obtain rfl : k = m := by omega
        obtain ⟨-, -, -, hall⟩ := many_is k h30
        have Hall := hid hall
        clear hall hlt
        by_cases h0 : k = 0
        · subst h0
          obtain ⟨l0, hl0, hh0, ht0⟩ : ∃ l0, manyL 0 = l0 ∧ hullF l0.all = .error 5 ∧ l0.text.length = 0 := ⟨_, rfl, rfl, rfl⟩
          rw [hl0] at HL
          have HH := hid hh0; have HT := hid ht0
          clear hl0 hh0 ht0 Hall
          go_wp2_with (first
                        | ((go_at_call 14; (with_reducible refine (hull_any w.heap.size v l0 _ (HL.out.up (by (repeat (first | (with_reducible exact Up.refl _) | (with_reducible assumption) | (with_reducible refine Up.alloc ?_ _) | (with_reducible refine Up.drew ?_) | ((with_reducible refine Up.set ?_ ?_ _); rotate_left; focus (first | omega | (simp; done) | (simp; omega))) | (with_reducible refine Up.drewN ?_ _) | (with_reducible refine Up.call ?_ (by with_reducible assumption))))))).mono ?_); rintro e w4 ⟨x4, v4, hx4, rfl, hv4, hb4⟩ <;> (rw [HH.out] at hx4; subst hx4; obtain rfl := boxR_error hv4; clear hv4)) <;> (have hle := Up.le hb4; (try simp only [World.size_alloc, World.size_setCell, World.size_drew, World.heap_drewN] at hle); clear hle))
                        | ((go_at_call 10; (with_reducible refine (serr_self 5 _ (HD.out.up (by (repeat (first | (with_reducible exact Up.refl _) | (with_reducible assumption) | (with_reducible refine Up.alloc ?_ _) | (with_reducible refine Up.drew ?_) | ((with_reducible refine Up.set ?_ ?_ _); rotate_left; focus (first | omega | (simp; done) | (simp; omega))) | (with_reducible refine Up.drewN ?_ _) | (with_reducible refine Up.call ?_ (by with_reducible assumption))))))).mono ?_); rintro e w5 ⟨rfl, hb5⟩) <;> (have hle := Up.le hb5; (try simp only [World.size_alloc, World.size_setCell, World.size_drew, World.heap_drewN] at hle); clear hle))
                        | ((go_at_call 15; (with_reducible refine (bytes_any w.heap.size v l0 _ (HL.out.up (by (repeat (first | (with_reducible exact Up.refl _) | (with_reducible assumption) | (with_reducible refine Up.alloc ?_ _) | (with_reducible refine Up.drew ?_) | ((with_reducible refine Up.set ?_ ?_ _); rotate_left; focus (first | omega | (simp; done) | (simp; omega))) | (with_reducible refine Up.drewN ?_ _) | (with_reducible refine Up.call ?_ (by with_reducible assumption))))))).mono ?_); rintro e w6 ⟨x6, rfl, rfl, hb6⟩ <;> (rw [HT.out])) <;> (have hle := Up.le hb6; (try simp only [World.size_alloc, World.size_setCell, World.size_drew, World.heap_drewN] at hle); clear hle)))
          go_ret
          exact LawEnd.mk (by first | rfl | (simp; done)) (by (repeat (first | (with_reducible exact Up.refl _) | (with_reducible assumption) | (with_reducible refine Up.alloc ?_ _) | (with_reducible refine Up.drew ?_) | ((with_reducible refine Up.set ?_ ?_ _); rotate_left; focus (first | omega | (simp; done) | (simp; omega))) | (with_reducible refine Up.drewN ?_ _) | (with_reducible refine Up.call ?_ (by with_reducible assumption)))))
        · obtain ⟨j, hj⟩ : ∃ j, min k 20 = j + 1 := ⟨min k 20 - 1, by omega⟩
          have HH := hid (show hullF (manyL k).all = .ok [⟨0, (j : Int)⟩] by rw [Hall.out, hj, boxes_hullF])
          have hz : ((k : Int) == 0) = false := beq_eq_false_iff_ne.2 (by omega)
          have HA := hid (show (manyL k).all.length = j + 1 by rw [Hall.out, hj]; simp [boxesTo])
          by_cases h20 : k ≤ 20
          · have hd20 : decide ((20 : Int) < (k : Int)) = false := decide_eq_false (by omega)
            obtain rfl : k = j + 1 := by omega
            clear hj h0
            go_wp2_with (first
                        | ((go_at_call 14; (with_reducible refine (hull_any w.heap.size v (manyL (j + 1)) _ (HL.out.up (by (repeat (first | (with_reducible exact Up.refl _) | (with_reducible assumption) | (with_reducible refine Up.alloc ?_ _) | (with_reducible refine Up.drew ?_) | ((with_reducible refine Up.set ?_ ?_ _); rotate_left; focus (first | omega | (simp; done) | (simp; omega))) | (with_reducible refine Up.drewN ?_ _) | (with_reducible refine Up.call ?_ (by with_reducible assumption))))))).mono ?_); rintro e w4 ⟨x4, v4, hx4, rfl, hv4, hb4⟩ <;> (rw [HH.out] at hx4; subst hx4; obtain ⟨A4, c4, rfl, hr4, hc4⟩ := boxR_ok hv4; obtain ⟨b4, o4, rfl, lb4, hk4⟩ := hr4.at (by simp); obtain ⟨z0, z1⟩ := hk4 0 (by simp); (have z0' : w4.cell? ⟨b4, o4, none⟩ = some (.int .i64 0) := z0); (have z1' : w4.cell? ⟨b4, o4 + 1, none⟩ = some (.int .i64 j) := (by have z := z1; simp at z; exact z)); clear hv4 hr4 hk4 z0 z1)) <;> (have hle := Up.le hb4; (try simp only [World.size_alloc, World.size_setCell, World.size_drew, World.heap_drewN] at hle); clear hle))
                        | ((go_at_call 16; (with_reducible refine (all_any w.heap.size v (manyL (j + 1)) _ (HL.out.up (by (repeat (first | (with_reducible exact Up.refl _) | (with_reducible assumption) | (with_reducible refine Up.alloc ?_ _) | (with_reducible refine Up.drew ?_) | ((with_reducible refine Up.set ?_ ?_ _); rotate_left; focus (first | omega | (simp; done) | (simp; omega))) | (with_reducible refine Up.drewN ?_ _) | (with_reducible refine Up.call ?_ (by with_reducible assumption))))))).mono ?_); rintro e w5 ⟨x5, v5, hx5, rfl, hv5, hb5⟩ <;> (subst hx5; obtain ⟨A5, c5, rfl, hr5, hc5⟩ := hv5; rw [HA.out]; clear hr5)) <;> (have hle := Up.le hb5; (try simp only [World.size_alloc, World.size_setCell, World.size_drew, World.heap_drewN] at hle); clear hle)))
            go_ret
            exact LawEnd.mk (by first | rfl | (simp; done)) (by (repeat (first | (with_reducible exact Up.refl _) | (with_reducible assumption) | (with_reducible refine Up.alloc ?_ _) | (with_reducible refine Up.drew ?_) | ((with_reducible refine Up.set ?_ ?_ _); rotate_left; focus (first | omega | (simp; done) | (simp; omega))) | (with_reducible refine Up.drewN ?_ _) | (with_reducible refine Up.call ?_ (by with_reducible assumption)))))
          · have hd20 : decide ((20 : Int) < (k : Int)) = true := decide_eq_true (by omega)
            obtain rfl : j = 19 := by omega
            clear hj h0
            go_wp2_with (first
                        | ((go_at_call 14; (with_reducible refine (hull_any w.heap.size v (manyL k) _ (HL.out.up (by (repeat (first | (with_reducible exact Up.refl _) | (with_reducible assumption) | (with_reducible refine Up.alloc ?_ _) | (with_reducible refine Up.drew ?_) | ((with_reducible refine Up.set ?_ ?_ _); rotate_left; focus (first | omega | (simp; done) | (simp; omega))) | (with_reducible refine Up.drewN ?_ _) | (with_reducible refine Up.call ?_ (by with_reducible assumption))))))).mono ?_); rintro e w4 ⟨x4, v4, hx4, rfl, hv4, hb4⟩ <;> (rw [HH.out] at hx4; subst hx4; obtain ⟨A4, c4, rfl, hr4, hc4⟩ := boxR_ok hv4; obtain ⟨b4, o4, rfl, lb4, hk4⟩ := hr4.at (by simp); obtain ⟨z0, z1⟩ := hk4 0 (by simp); (have z0' : w4.cell? ⟨b4, o4, none⟩ = some (.int .i64 0) := z0); (have z1' : w4.cell? ⟨b4, o4 + 1, none⟩ = some (.int .i64 19) := (by have z := z1; simp at z; exact z)); clear hv4 hr4 hk4 z0 z1)) <;> (have hle := Up.le hb4; (try simp only [World.size_alloc, World.size_setCell, World.size_drew, World.heap_drewN] at hle); clear hle))
                        | ((go_at_call 16; (with_reducible refine (all_any w.heap.size v (manyL k) _ (HL.out.up (by (repeat (first | (with_reducible exact Up.refl _) | (with_reducible assumption) | (with_reducible refine Up.alloc ?_ _) | (with_reducible refine Up.drew ?_) | ((with_reducible refine Up.set ?_ ?_ _); rotate_left; focus (first | omega | (simp; done) | (simp; omega))) | (with_reducible refine Up.drewN ?_ _) | (with_reducible refine Up.call ?_ (by with_reducible assumption))))))).mono ?_); rintro e w5 ⟨x5, v5, hx5, rfl, hv5, hb5⟩ <;> (subst hx5; obtain ⟨A5, c5, rfl, hr5, hc5⟩ := hv5; rw [HA.out]; clear hr5)) <;> (have hle := Up.le hb5; (try simp only [World.size_alloc, World.size_setCell, World.size_drew, World.heap_drewN] at hle); clear hle)))
            go_ret
            exact LawEnd.mk (by first | rfl | (simp; done)) (by (repeat (first | (with_reducible exact Up.refl _) | (with_reducible assumption) | (with_reducible refine Up.alloc ?_ _) | (with_reducible refine Up.drew ?_) | ((with_reducible refine Up.set ?_ ?_ _); rotate_left; focus (first | omega | (simp; done) | (simp; omega))) | (with_reducible refine Up.drewN ?_ _) | (with_reducible refine Up.call ?_ (by with_reducible assumption)))))
  all_goals
    go_enter Tryd.func4, Tryd.ntmps4
    go_wp2_with (first
                        | ((go_at_call 12; (with_reducible refine (HNW.out _).mono ?_); rintro e w1 ⟨rfl, hl1, hb1⟩) <;> (have hle := Up.le hb1; (try simp only [World.size_alloc, World.size_setCell, World.size_drew, World.heap_drewN] at hle); clear hle)))
    go_ret
    exact LawEnd.mk rfl (by (repeat (first | (with_reducible exact Up.refl _) | (with_reducible assumption) | (with_reducible refine Up.alloc ?_ _) | (with_reducible refine Up.drew ?_) | ((with_reducible refine Up.set ?_ ?_ _); rotate_left; focus (first | omega | (simp; done) | (simp; omega))) | (with_reducible refine Up.drewN ?_ _) | (with_reducible refine Up.call ?_ (by with_reducible assumption)))))

set_option maxRecDepth 100000 in
theorem logMany_lifted (os : Os) (started : os.Started) (H : Type) (enc : TypeId × Value → H) :
    ReturnsInHanded {} Tryd.checked os 4 .any (fun w args => (Rows.logManySpec.pre enc Tryd.prog Tryd.f4 [] false w args ∧ laidMetH Tryd.prog laidL4 w) ∧ sizedMet enc Tryd.prog Tryd.f4 (OpenSpec.ofChange Rows.logManySpec) false w args) (Rows.logManySpec.post enc Tryd.prog Tryd.f4 false true false false) := by
  refine returnsInHanded_of_change_and (C := Tryd.checked) (X := fun w _ => laidMetH Tryd.prog laidL4 w) (fun _ _ _ hh h => h.of_heap hh) Tryd.own started (by kernel_rfl) Tryd.func4
    (ChangeSpec.witness_at (enc := enc) (C := Tryd.checked) (os := os) (X := fun w _ => laidMetH Tryd.prog laidL4 w) false (laidWorld4 os) #[.int .i64 0] 8 rfl (by kernel_rfl) (by kernel_rfl) (by kernel_rfl) (by kernel_rfl) (by kernel_rfl) (laidWorld4_met os _)) ?_
  intro W base args ds gs before hval0 hW _ _ hL _
  have hdoor := door4_of_laid hL
  have hval : ∀ (j : Nat) t v, Tryd.f4.params[j]? = some t → args[j]? = some v → Value.okWide Tryd.prog W .any base t v := hval0
  have hW' := hW
  obtain ⟨p, q, hA0, hV, rfl, hfz, hnd⟩ := hW
  have hA : DataW.TrodAll enc Tryd.prog W 0 (fun _ => true) true Tryd.f4.params.toList args.toList ds p := hA0
  rw [Tryd.params4] at hA hval
  obtain ⟨v0, d0, rfl, rfl, h0⟩ := trodAll_one hA
  obtain ⟨rfl, rfl⟩ := trodVars_none hV
  obtain ⟨n0, rfl, w0⟩ := open_i64 Tryd.underlying3 (hval 0 3 _ rfl rfl) h0
  clear hA0 hval0
  refine (logMany_walk n0 W w0 hdoor).mono fun e W' ⟨he, hu⟩ => ?_
  subst he
  exact ⟨_, rfl, law_post Tryd.laidOut rfl rfl Tryd.underlying4 (fun t ht => by simp [Tryd.params4] at ht; (try rcases ht with rfl); all_goals (first | (subst ht; exact ⟨by kernel_rfl, of_decide_eq_true (by kernel_rfl)⟩) | exact ⟨by kernel_rfl, of_decide_eq_true (by kernel_rfl)⟩)) hW' rfl rfl rfl hu⟩
theorem logMany_k1 : (Rows.logManyRow.inPlace == Tryd.pinned.checked.prog.inPlace 4) = true := by kernel_rfl
theorem logMany_k2 : (Rows.logManyRow.unfollowed == Tryd.pinned.checked.prog.unfollowed 4) = true := by kernel_rfl
theorem logMany_k3 : (Rows.logManyRow.recurses == Tryd.pinned.checked.prog.recurses 4) = true := by kernel_rfl
theorem logMany_k4 : (Rows.logManyRow.named == Tryd.pinned.checked.prog.varsNamed 4) = true := by kernel_rfl
theorem logMany_facts : joinedFacts Tryd.pinned.checked.prog 4 Tryd.f4 Rows.logManySpec Rows.logManyRow = true :=
  joined_of _ _ _ _ _ Tryd.g1 Tryd.g2 Tryd.g3 Tryd.g4 Tryd.g5 Tryd.g6 Tryd.g7 Tryd.g8 Tryd.g9 logMany_k1 logMany_k2 logMany_k3 logMany_k4 (by kernel_rfl)
theorem logMany_bare : Rows.LogManySaid :=
  OpenClaim.holds_of_wide 4 Tryd.f4 rfl rfl rfl rfl rfl rfl rfl ⟨rfl, rfl, rfl, rfl, rfl⟩ rfl rfl rfl rfl rfl (by kernel_rfl) Tryd.func4 logMany_facts
    (of_decide_eq_true (by kernel_rfl)) (by unfold Func.isWrapper; rw [if_neg (by decide +kernel)]; exact ⟨rfl, rfl⟩)
    (fun os started H enc _ => logMany_lifted os started H enc)
theorem logMany_holds : Rows.LogManyCardSaid :=
  Claim7.holds_tied_plain_at .later [] [.data, .data, .data, .handle] true (true, "81e5e7a0832d8737f58bea7b0b5dc6a3e1fad632e21171769fdfff66c1c4c699") true logMany_bare (fun _ h => by cases h) (by kernel_rfl) (fun _ h => by cases h) logMany_row_tie rfl ⟨rfl, rfl⟩ door_main rfl
    (fun f fn hf hfn => by
      obtain rfl : f = 4 := Option.some.inj ((show Tryd.prog.funcNamed "spanmeadow/spanlaw4.LogMany" = some 4 by kernel_rfl).symm.trans hf) |>.symm
      obtain rfl : fn = Tryd.f4 := (Option.some.inj (Tryd.func4.symm.trans hfn)).symm
      exact ⟨door_looks.symm, fun j t ht => by
        rw [Tryd.params4] at ht
        have hm : t ∈ [3] := by
          have := Array.mem_of_getElem? ht
          simpa using this
        simp only [List.mem_cons, List.not_mem_nil, or_false] at hm
        rcases hm with rfl
        · exact (show Tryd.prog.wantsStandIn 3 = false by kernel_rfl)⟩)
    (by kernel_rfl)
#print axioms logMany_holds
end Go.Proofs.YtopgjbjpmnlldaaDoor
