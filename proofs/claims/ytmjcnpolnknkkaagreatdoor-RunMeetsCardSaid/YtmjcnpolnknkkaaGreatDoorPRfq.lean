/- The walks of the reference's polynomials: Poly, Over, Horner, Powers, Derive, Slope, Center, Best, Way, Range, Newton. -/
import Derived.Test.YtmjcnpolnknkkaaGreatDoorPRfp
import Derived.Test.YtmjcnpolnknkkaaGreatDoorPRft
import Derived.Test.YtmjcnpolnknkkaaGreatDoorPPolyb
import Derived.Test.YtmjcnpolnknkkaaGreatDoorPBase
import Derived.Deep.RegionWith
set_option linter.unusedVariables false
set_option linter.unusedSimpArgs false
namespace Go.Proofs.YtmjcnpolnknkkaaGreatDoor
open Go.RowKit

theorem pcheck_num {p : List Int} {e : Nat} (h : pcheckF p = some e) : e = 5 ∨ e = 4 ∨ e = 1 := by
  unfold pcheckF at h
  split at h
  · injection h with h; omega
  · split at h
    · injection h with h; omega
    · split at h
      · cases h
      · injection h with h; omega
theorem pcheck_bad {p : List Int} {k : Nat} (h0 : 0 < p.length) (h5 : p.length ≤ 5) (hk : k < p.length) (h : ¬ M (p[k]?.getD 0)) : pcheckF p = some 1 := by
  unfold pcheckF
  rw [if_neg (by omega), if_neg (by omega), if_neg]
  intro ha
  apply h
  rw [List.getElem?_eq_getElem hk]
  exact ha _ (List.getElem_mem hk)
theorem pcheck_good {p : List Int} (h0 : 0 < p.length) (h5 : p.length ≤ 5) (h : ∀ n ∈ p, M n) : pcheckF p = none := by
  unfold pcheckF
  rw [if_neg (by omega), if_neg (by omega), if_pos h]
set_option maxHeartbeats 1000000 in
theorem rpoly_any (A : Option Addr) (p : List Int) (c : Nat) (w : World) (hm : p.length ≤ 9223372036854775807) (hr : RdI w A p) :
    Calls Tryz.prog 63 #[.slice A p.length c] w (RetX numV (pcheckF p) w) := by
  have Hr := hid hr; clear hr
  by_cases h0 : p.length = 0
  · have Hp := hid (show pcheckF p = some 5 by unfold pcheckF; rw [if_pos h0])
    have e1 : ((p.length : Int) == 0) = true := by rw [h0]; rfl
    clear h0
    go_enter Tryz.func63, Tryz.ntmps63
    go_wp2
    go_ret
    refine RetX.mk (some 5) (Up.refl _) Hp.out rfl
  · have e1 : ((p.length : Int) == 0) = false := beq_eq_false_iff_ne.2 (by omega)
    by_cases h5 : 5 < p.length
    · have Hp := hid (show pcheckF p = some 4 by unfold pcheckF; rw [if_neg h0, if_pos h5])
      have e2 : decide ((5 : Int) < (p.length : Int)) = true := decide_eq_true (by omega)
      clear h0
      go_enter Tryz.func63, Tryz.ntmps63
      go_wp2
      go_ret
      refine RetX.mk (some 4) (Up.refl _) Hp.out rfl
    · have e2 : decide ((5 : Int) < (p.length : Int)) = false := decide_eq_false (by omega)
      have h0' : 0 < p.length := by omega
      have h5' : p.length ≤ 5 := by omega
      clear h0 h5
      go_enter Tryz.func63, Tryz.ntmps63
      go_wp2
      go_loop [3] (fun i => ∃ k : Nat, k ≤ p.length ∧ i = .int .i64 k ∧ Hid (∀ n ∈ p.take k, M n)) (fun i => p.length - (intOf i).toNat)
      case atStart => exact ⟨0, by omega, rfl, fun n hn => by simp at hn⟩
      case round =>
        obtain ⟨k, hk, rfl, H⟩ := hrel
        by_cases hlt : k < p.length
        · have hd : decide ((k : Int) < (p.length : Int)) = true := by simp; omega
          obtain ⟨b, o, rfl, hb, hc⟩ := Hr.out (by intro h; simp [h] at hlt)
          have hck := hc k hlt
          have Hb := hid (pcheck_bad h0' h5' hlt)
          have Hs := hid (show M (p[k]?.getD 0) → ∀ n ∈ p.take (k + 1), M n from fun hM n hn => by
            rw [List.take_succ_eq_append_getElem hlt] at hn
            rcases List.mem_append.1 hn with h | h
            · exact H.out n h
            · simp at h
              rw [h]
              rw [List.getElem?_eq_getElem hlt] at hM
              exact hM)
          clear hc
          generalize p[k]?.getD 0 = n at *
          cases hm : mayB n with
          | true =>
            have Hm := hid hm; clear hm
            go_wp2_with ((go_at_call 8; refine (rmay_any _ _).mono ?_; rintro e w' ⟨rfl, rfl⟩); rw [Hm.out])
            go_round
            case rel => exact ⟨k + 1, by omega, by go_num, Hs.out (mayB_true.1 Hm.out)⟩
            case measure => simp [intOf]; omega
          | false =>
            have Hm := hid hm; clear hm
            go_wp2_with ((go_at_call 8; refine (rmay_any _ _).mono ?_; rintro e w' ⟨rfl, rfl⟩); rw [Hm.out])
            go_ret
            exact RetX.mk (some 1) (Up.refl _) (Hb.out (mayB_false.1 Hm.out)) rfl
        · obtain rfl : k = p.length := by omega
          go_wp2
          go_ret
          have := H.out
          rw [List.take_length] at this
          exact RetX.mk none (Up.refl _) (pcheck_good h0' h5' this) rfl
theorem nested_cons {x : Sp} {n : Int} {q : List Int} (h : q ≠ []) : nestedF x (n :: q) = match nestedF x q with
    | .error e => .error e
    | .ok s => match prodF s x with
      | .error e => .error e
      | .ok t => sumF t ⟨n, n⟩ := by
  cases q with
  | nil => exact absurd rfl h
  | cons m q => rfl
theorem nested_back {x : Sp} {q : List Int} {e : Nat} (hq : q ≠ []) (h : nestedF x q = .error e) : ∀ l : List Int, nestedF x (l ++ q) = .error e
  | [] => h
  | n :: l => by
    have hne : l ++ q ≠ [] := by simp [hq]
    show nestedF x (n :: (l ++ q)) = _
    rw [nested_cons hne, nested_back hq h l]
theorem nested_at_drop {x : Sp} {p : List Int} {m : Nat} (hm : m + 1 < p.length) : nestedF x (p.drop m) = match nestedF x (p.drop (m + 1)) with
    | .error e => .error e
    | .ok s => match prodF s x with
      | .error e => .error e
      | .ok t => sumF t ⟨p[m]?.getD 0, p[m]?.getD 0⟩ := by
  rw [getD_drop p m (by omega)]
  exact nested_cons (by intro h; have := congrArg List.length h; simp at this; omega)
theorem nested_drop_err {x : Sp} {p : List Int} {m e : Nat} (hm : m < p.length) (h : nestedF x (p.drop m) = .error e) : nestedF x p = .error e := by
  have := nested_back (by intro hh; have := congrArg List.length hh; simp at this; omega) h (p.take m)
  rwa [List.take_append_drop] at this
set_option maxRecDepth 100000 in
set_option maxHeartbeats 4000000 in
theorem rhorner_any (A : Option Addr) (p : List Int) (c : Nat) (lo hi : Int) (w : World) (h0 : 0 < p.length) (h5 : p.length ≤ 5) (hr : RdI w A p) (hp : ∀ n ∈ p, M n) (hx : Rt ⟨lo, hi⟩) :
    Calls Tryz.prog 99 #[.slice A p.length c, .agg #[.int .i64 lo, .int .i64 hi]] w (RetX rfR (nestedF ⟨lo, hi⟩ p) w) := by
  obtain ⟨b, o, rfl, hb, hc⟩ := hr (by intro h; simp [h] at h0)
  have hlast := hc (p.length - 1) (by omega)
  have hlM : M (p[p.length - 1]?.getD 0) := M_getD hp _
  have Hl := hid (show nestedF ⟨lo, hi⟩ (p.drop (p.length - 1)) = .ok ⟨p[p.length - 1]?.getD 0, p[p.length - 1]?.getD 0⟩ by
    rw [getD_drop p (p.length - 1) (by omega), show p.length - 1 + 1 = p.length by omega, List.drop_length]
    rfl)
  have e1 : ((p.length : Int) - 1).toNat = p.length - 1 := by omega
  have e2 : (p.length : Int) - 1 = ((p.length - 1 : Nat) : Int) := by omega
  have Hc := hid hc; have HlM := hid hlM; clear hc hlM hr
  generalize p[p.length - 1]?.getD 0 = last at *
  go_enter Tryz.func99, Tryz.ntmps99
  go_wp2_with (first
    | ((go_at_call 10; refine (ralone_any _ _).mono ?_; rintro e w1 ⟨x1, hx1, rfl, hb1⟩); subst hx1; obtain ⟨hc1, hf1⟩ := bcell hb1; obtain ⟨_, _⟩ : w.heap.size < w1.heap.size ∧ w.heap.size + 1 < w1.heap.size := (by have hle := Up.le hb1; first | omega | (simp at hle; omega) | (simp at hle; done))))
  go_loopw [7, 8] (fun e i wr => ∃ (m : Nat) (t : Sp), m < p.length ∧ e = .int .i64 0 ∧ i = .int .i64 ((m : Int) - 1) ∧ Hid (nestedF ⟨lo, hi⟩ (p.drop m) = .ok t) ∧ M t.lo ∧ M t.hi ∧ Up w wr ∧
    (Cf wr w.heap.size 0 (.int .i64 lo) ∧ Cf wr w.heap.size 1 (.int .i64 hi)) ∧ (Cf wr (w.heap.size + 1) 0 (.int .i64 0) ∧ Cf wr (w.heap.size + 1) 1 (.int .i64 0)) ∧ (Cf wr w1.heap.size 0 (.int .i64 t.lo) ∧ Cf wr w1.heap.size 1 (.int .i64 t.hi)))
    (fun _ i _ => (intOf i + 1).toNat)
  case atStart =>
    refine ⟨p.length - 1, ⟨last, last⟩, by omega, rfl, by first | rfl | (congr 1; omega), Hl.out, HlM.out, HlM.out, ?_, ⟨⟨by go_simp, by go_simp⟩, ⟨by go_simp, by go_simp⟩⟩, ⟨⟨by go_simp, by go_simp⟩, ⟨by go_simp, by go_simp⟩⟩, ⟨⟨by go_simp, by go_simp⟩, ⟨by go_simp, by go_simp⟩⟩⟩
    (repeat (first | (with_reducible exact Up.refl _) | (with_reducible assumption) | (with_reducible refine Up.alloc ?_ _) | (with_reducible refine Up.drew ?_) | ((with_reducible refine Up.set ?_ ?_ _); rotate_left; focus (first | omega | (simp; done) | (simp; omega))) | (with_reducible refine Up.drewN ?_ _) | (with_reducible refine Up.call ?_ (by with_reducible assumption))))
  case round =>
    obtain ⟨m, t, hm, rfl, rfl, H, m1, m2, hU, ⟨⟨c0, g0⟩, ⟨c1, g1⟩⟩, ⟨⟨c2, g2⟩, ⟨c3, g3⟩⟩, ⟨⟨c4, g4⟩, ⟨c5, g5⟩⟩⟩ := hrel
    have l2 := World.block_lt_of_cell? wr _ c4
    have l1 := World.block_lt_of_cell? wr _ c2
    have l0 := World.block_lt_of_cell? wr _ c0
    dsimp only at l0 l1 l2
    by_cases h1 : m = 0
    · subst h1
      have hd : decide ((0 : Int) ≤ ((0 : Nat) : Int) - 1) = false := by decide
      have H2 := H.out
      rw [List.drop_zero] at H2
      have Hx := hid H2
      clear H2
      go_wp2
      (refine bodyPost_res rfl ?_; simp only [results, Tryz.results99]; go_simp; refine resPost_ok ?_)
      refine RetX.mk (.ok t) ?_ Hx.out rfl
      (repeat (first | (with_reducible exact Up.refl _) | (with_reducible assumption) | (with_reducible refine Up.alloc ?_ _) | (with_reducible refine Up.drew ?_) | ((with_reducible refine Up.set ?_ ?_ _); rotate_left; focus (first | omega | (simp; done) | (simp; omega))) | (with_reducible refine Up.drewN ?_ _) | (with_reducible refine Up.call ?_ (by with_reducible assumption))))
    · obtain ⟨k, rfl⟩ : ∃ k, m = k + 1 := ⟨m - 1, by omega⟩
      have hk : ((k + 1 : Nat) : Int) - 1 = (k : Int) := by omega
      rw [hk]
      have hd : decide ((0 : Int) ≤ (k : Int)) = true := decide_eq_true (by omega)
      have hlk : (k : Int) < (p.length : Int) := by omega
      have hck : wr.cell? ⟨b, o + k, none⟩ = some (.int .i64 (p[k]?.getD 0)) := (Below.cell hU (p := ⟨b, o + k, none⟩) hb).trans (Hc.out k (by omega))
      have hbr : b < wr.heap.size := Nat.lt_of_lt_of_le hb hU.le
      have hn : M (p[k]?.getD 0) := M_getD hp k
      have Hst := hid (nested_at_drop (x := ⟨lo, hi⟩) (p := p) (m := k) (by omega))
      have Her := hid (fun e (h : nestedF ⟨lo, hi⟩ (p.drop k) = .error e) => nested_drop_err (m := k) (by omega) h)
      generalize p[k]?.getD 0 = n at *
      have Hpr := hid (fun W => rtimes_any t.lo t.hi lo hi W m1 m2 hx.1 hx.2.1)
      have Hn := hid hn; clear hn
      cases hx2 : prodF t ⟨lo, hi⟩ with
      | error n2 =>
        have Hx2 := hid hx2
        have n4 := prod_err hx2
        subst n4
        have Hx := hid (Her.out 4 (by rw [Hst.out, H.out]; dsimp only; rw [hx2]))
        clear hx2
        go_wp2_with (first
          | ((go_at_call 9; refine (Hpr.out _).mono ?_; rintro e w2 ⟨x2, hx2, rfl, hb2⟩); rw [Hx2.out] at hx2; subst hx2; obtain ⟨hc2, hf2⟩ := bcell hb2; obtain ⟨_, _⟩ : w.heap.size < w2.heap.size ∧ w.heap.size + 1 < w2.heap.size := (by have hle := Up.le hb2; first | omega | (simp at hle; omega) | (simp at hle; done)); have _ : w1.heap.size < w2.heap.size := (by have hle := Up.le hb2; first | omega | (simp at hle; omega) | (simp at hle; done)); (try (apply ck hb2 (w1.heap.size) 0; (focus (go_simp; rfl)); intro z; have ec0 := z; clear z)); (try (apply ck hb2 (w1.heap.size) 1; (focus (go_simp; rfl)); intro z; have ec1 := z; clear z))))
        (refine bodyPost_res rfl ?_; simp only [results, Tryz.results99]; go_simp; refine resPost_ok ?_)
        refine RetX.mk (.error 4) ?_ Hx.out rfl
        (repeat (first | (with_reducible exact Up.refl _) | (with_reducible assumption) | (with_reducible refine Up.alloc ?_ _) | (with_reducible refine Up.drew ?_) | ((with_reducible refine Up.set ?_ ?_ _); rotate_left; focus (first | omega | (simp; done) | (simp; omega))) | (with_reducible refine Up.drewN ?_ _) | (with_reducible refine Up.call ?_ (by with_reducible assumption))))
      | ok q =>
        obtain ⟨m5, m6⟩ := prod_M hx2
        have Hsu := hid (fun W => radd_any q.lo q.hi n n W m5 m6 Hn.out Hn.out)
        have Hx2 := hid hx2; clear hx2
        cases hx3 : sumF q ⟨n, n⟩ with
        | error n3 =>
          have Hx3 := hid hx3
          have n4 := sum_err hx3
          subst n4
          have Hx := hid (Her.out 4 (by rw [Hst.out, H.out]; dsimp only; rw [Hx2.out]; exact hx3))
          clear hx3
          go_wp2_with (first
            | ((go_at_call 9; refine (Hpr.out _).mono ?_; rintro e w2 ⟨x2, hx2, rfl, hb2⟩); rw [Hx2.out] at hx2; subst hx2; obtain ⟨hc2, hf2⟩ := bcell hb2; obtain ⟨_, _⟩ : w.heap.size < w2.heap.size ∧ w.heap.size + 1 < w2.heap.size := (by have hle := Up.le hb2; first | omega | (simp at hle; omega) | (simp at hle; done)); have _ : w1.heap.size < w2.heap.size := (by have hle := Up.le hb2; first | omega | (simp at hle; omega) | (simp at hle; done)); (try (apply ck hb2 (w1.heap.size) 0; (focus (go_simp; rfl)); intro z; have ec0 := z; clear z)); (try (apply ck hb2 (w1.heap.size) 1; (focus (go_simp; rfl)); intro z; have ec1 := z; clear z))))
          go_region_with (first
            | ((go_at_call 10; refine (ralone_any _ _).mono ?_; rintro e w3 ⟨x3, hx3, rfl, hb3⟩); subst hx3; obtain ⟨hc3, hf3⟩ := bcell hb3; obtain ⟨_, _⟩ : w.heap.size < w3.heap.size ∧ w.heap.size + 1 < w3.heap.size := (by have hle := Up.le hb3; first | omega | (simp at hle; omega) | (simp at hle; done)); have _ : w1.heap.size < w3.heap.size := (by have hle := Up.le hb3; first | omega | (simp at hle; omega) | (simp at hle; done)); (try (apply ck hb3 (w1.heap.size) 0; (focus (go_simp; rfl)); intro z; have ea0 := z; clear z)); (try (apply ck hb3 (w1.heap.size) 1; (focus (go_simp; rfl)); intro z; have ea1 := z; clear z)))
            | ((go_at_call 56; refine (Hsu.out _).mono ?_; rintro e w4 ⟨x4, hx4, rfl, hb4⟩); rw [Hx3.out] at hx4; subst hx4; obtain ⟨hc4, hf4⟩ := bcell hb4; obtain ⟨_, _⟩ : w.heap.size < w4.heap.size ∧ w.heap.size + 1 < w4.heap.size := (by have hle := Up.le hb4; first | omega | (simp at hle; omega) | (simp at hle; done)); have _ : w1.heap.size < w4.heap.size := (by have hle := Up.le hb4; first | omega | (simp at hle; omega) | (simp at hle; done)); (try (apply ck hb4 (w1.heap.size) 0; (focus (go_simp; rfl)); intro z; have eb0 := z; clear z)); (try (apply ck hb4 (w1.heap.size) 1; (focus (go_simp; rfl)); intro z; have eb1 := z; clear z))))
          all_goals go_wp2
          all_goals
            (refine bodyPost_res rfl ?_; simp only [results, Tryz.results99]; go_simp; refine resPost_ok ?_)
            refine RetX.mk (.error 4) ?_ Hx.out rfl
            (repeat (first | (with_reducible exact Up.refl _) | (with_reducible assumption) | (with_reducible refine Up.alloc ?_ _) | (with_reducible refine Up.drew ?_) | ((with_reducible refine Up.set ?_ ?_ _); rotate_left; focus (first | omega | (simp; done) | (simp; omega))) | (with_reducible refine Up.drewN ?_ _) | (with_reducible refine Up.call ?_ (by with_reducible assumption))))
        | ok u =>
          have Hx3 := hid hx3
          have Hx := hid (show nestedF ⟨lo, hi⟩ (p.drop k) = .ok u by rw [Hst.out, H.out]; dsimp only; rw [Hx2.out]; exact hx3)
          obtain ⟨m7, m8⟩ := sum_M hx3
          clear hx3
          go_wp2_with (first
            | ((go_at_call 9; refine (Hpr.out _).mono ?_; rintro e w2 ⟨x2, hx2, rfl, hb2⟩); rw [Hx2.out] at hx2; subst hx2; obtain ⟨hc2, hf2⟩ := bcell hb2; obtain ⟨_, _⟩ : w.heap.size < w2.heap.size ∧ w.heap.size + 1 < w2.heap.size := (by have hle := Up.le hb2; first | omega | (simp at hle; omega) | (simp at hle; done)); have _ : w1.heap.size < w2.heap.size := (by have hle := Up.le hb2; first | omega | (simp at hle; omega) | (simp at hle; done)); (try (apply ck hb2 (w1.heap.size) 0; (focus (go_simp; rfl)); intro z; have ec0 := z; clear z)); (try (apply ck hb2 (w1.heap.size) 1; (focus (go_simp; rfl)); intro z; have ec1 := z; clear z))))
          go_region_with (first
            | ((go_at_call 10; refine (ralone_any _ _).mono ?_; rintro e w3 ⟨x3, hx3, rfl, hb3⟩); subst hx3; obtain ⟨hc3, hf3⟩ := bcell hb3; obtain ⟨_, _⟩ : w.heap.size < w3.heap.size ∧ w.heap.size + 1 < w3.heap.size := (by have hle := Up.le hb3; first | omega | (simp at hle; omega) | (simp at hle; done)); have _ : w1.heap.size < w3.heap.size := (by have hle := Up.le hb3; first | omega | (simp at hle; omega) | (simp at hle; done)); (try (apply ck hb3 (w1.heap.size) 0; (focus (go_simp; rfl)); intro z; have ea0 := z; clear z)); (try (apply ck hb3 (w1.heap.size) 1; (focus (go_simp; rfl)); intro z; have ea1 := z; clear z)))
            | ((go_at_call 56; refine (Hsu.out _).mono ?_; rintro e w4 ⟨x4, hx4, rfl, hb4⟩); rw [Hx3.out] at hx4; subst hx4; obtain ⟨hc4, hf4⟩ := bcell hb4; obtain ⟨_, _⟩ : w.heap.size < w4.heap.size ∧ w.heap.size + 1 < w4.heap.size := (by have hle := Up.le hb4; first | omega | (simp at hle; omega) | (simp at hle; done)); have _ : w1.heap.size < w4.heap.size := (by have hle := Up.le hb4; first | omega | (simp at hle; omega) | (simp at hle; done)); (try (apply ck hb4 (w1.heap.size) 0; (focus (go_simp; rfl)); intro z; have eb0 := z; clear z)); (try (apply ck hb4 (w1.heap.size) 1; (focus (go_simp; rfl)); intro z; have eb1 := z; clear z))))
          all_goals go_wp2
          all_goals
            go_roundw
            case rel =>
              refine ⟨k, u, by omega, rfl, by first | rfl | go_num, Hx.out, m7, m8, ?_, ⟨⟨by go_simp, by go_simp⟩, ⟨by go_simp, by go_simp⟩⟩, ⟨⟨by go_simp, by go_simp⟩, ⟨by go_simp, by go_simp⟩⟩, ⟨⟨?_, by go_simp⟩, ⟨?_, by go_simp⟩⟩⟩
              · (repeat (first | (with_reducible exact Up.refl _) | (with_reducible assumption) | (with_reducible refine Up.alloc ?_ _) | (with_reducible refine Up.drew ?_) | ((with_reducible refine Up.set ?_ ?_ _); rotate_left; focus (first | omega | (simp; done) | (simp; omega))) | (with_reducible refine Up.drewN ?_ _) | (with_reducible refine Up.call ?_ (by with_reducible assumption))))
              · go_simp
              · first
                  | (go_simp; done)
                  | exact World.cell?_setCell_same (u := .int .i64 q.hi) _ _ _ ((World.cell?_setCell_other (w := w4) (a := ⟨w1.heap.size, 0, none⟩) (b := ⟨w1.heap.size, 1, none⟩) (v := .int .i64 u.lo) (by simp)).trans eb1)
            case measure => first | (simp [intOf]; done) | (simp [intOf]; omega)
end Go.Proofs.YtmjcnpolnknkkaaGreatDoor
