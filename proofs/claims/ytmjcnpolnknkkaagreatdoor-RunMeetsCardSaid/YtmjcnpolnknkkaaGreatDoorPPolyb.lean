/- The walks of package poly: Horner, Added, Powers. The walks of package poly: Horner, Powers, Slope, Derive; of package center. The walks of package poly: Slope, Derive. The walks of poly.Derive and of package center. -/
import Derived.Test.YtmjcnpolnknkkaaGreatDoorPNest
import Derived.Deep.RegionWith
import Derived.Maps.AppendAt
set_option linter.unusedVariables false
set_option linter.unusedSimpArgs false
namespace Go.Proofs.YtmjcnpolnknkkaaGreatDoor
open Go.RowKit

theorem pboth_none {p : List Int} {x : Sp} (h : pbothF p x = none) : 0 < p.length ∧ p.length ≤ 5 ∧ (∀ n ∈ p, M n) ∧ Rt x := by
  unfold pbothF at h
  split at h
  · cases h
  · rename_i hp
    unfold pcheckF at hp
    split at hp
    · cases hp
    · split at hp
      · cases hp
      · split at hp
        · exact ⟨by omega, by omega, by assumption, checkF_none.1 h⟩
        · cases hp
theorem getD_drop (p : List Int) (k : Nat) (h : k < p.length) : p.drop k = (p[k]?.getD 0) :: p.drop (k + 1) := by
  rw [List.drop_eq_getElem_cons h, List.getElem?_eq_getElem h]; rfl

theorem added_bad1 {x s : Sp} {k e : Nat} {n : Int} {p : List Int} (h : raisedF x k = .error e) : addedF x k s (n :: p) = .error e := by
  unfold addedF; rw [h]
theorem added_bad2 {x s r : Sp} {k e : Nat} {n : Int} {p : List Int} (h : raisedF x k = .ok r) (h2 : prodF ⟨n, n⟩ r = .error e) : addedF x k s (n :: p) = .error e := by
  unfold addedF; rw [h]; dsimp only; rw [h2]
theorem added_bad3 {x s r t : Sp} {k e : Nat} {n : Int} {p : List Int} (h : raisedF x k = .ok r) (h2 : prodF ⟨n, n⟩ r = .ok t) (h3 : sumF s t = .error e) : addedF x k s (n :: p) = .error e := by
  unfold addedF; rw [h]; dsimp only; rw [h2]; dsimp only; rw [h3]
theorem added_good {x s r t u : Sp} {k : Nat} {n : Int} {p : List Int} (h : raisedF x k = .ok r) (h2 : prodF ⟨n, n⟩ r = .ok t) (h3 : sumF s t = .ok u) : addedF x k s (n :: p) = addedF x (k + 1) u p := by
  conv => lhs; unfold addedF
  rw [h]; dsimp only; rw [h2]; dsimp only; rw [h3]
theorem raised_M {a s : Sp} {t : Nat} (h1 : M a.lo) (h2 : M a.hi) (h : raisedF a t = .ok s) : M s.lo ∧ M s.hi := by
  have sg : ∀ (n : Int) (p : Int × Int), M n → signedF n t = .ok p → M p.1 ∧ M p.2 := by
    intro n p hn hp
    unfold signedF at hp
    obtain ⟨_, _⟩ := hn
    split at hp
    · obtain ⟨a1, a2, a3⟩ := again_bd n (by assumption) t p.1 p.2 hp
      exact ⟨⟨by omega, by omega⟩, ⟨by omega, by omega⟩⟩
    · split at hp
      · cases hp
      · rename_i l u hq
        injection hp with hp
        subst hp
        obtain ⟨a1, a2, a3⟩ := again_bd (-n) (by omega) t l u hq
        exact ⟨⟨by dsimp only; omega, by dsimp only; omega⟩, ⟨by dsimp only; omega, by dsimp only; omega⟩⟩
  have hp : M (if t % 2 = 0 then apartF a else (a.lo, a.hi)).1 ∧ M (if t % 2 = 0 then apartF a else (a.lo, a.hi)).2 := by
    split
    · exact apart_bd a h1 h2
    · exact ⟨h1, h2⟩
  unfold raisedF raisedG at h
  split at h
  · cases h
  · rename_i p1 hq1
    split at h
    · cases h
    · rename_i p2 hq2
      injection h with h
      subst h
      exact ⟨(sg _ _ hp.1 hq1).1, (sg _ _ hp.2 hq2).2⟩

set_option maxRecDepth 100000 in
set_option maxHeartbeats 4000000 in
theorem added_any (A : Option Addr) (p : List Int) (c : Nat) (lo hi : Int) (w : World) (h5 : p.length ≤ 5) (hr : RdI w A p) (hp : ∀ n ∈ p, M n) (hx : Rt ⟨lo, hi⟩) :
    Calls Tryz.prog 224 #[.slice A p.length c, .agg #[.int .i64 lo, .int .i64 hi]] w (RetX spR (addedF ⟨lo, hi⟩ 0 ⟨0, 0⟩ p) w) := by
  have Hr := hid hr; clear hr
  go_enter Tryz.func224, Tryz.ntmps224
  go_wp2
  go_loopw [13] (fun i wr => ∃ (k : Nat) (t : Sp), k ≤ p.length ∧ i = .int .i64 k ∧ Hid (addedF ⟨lo, hi⟩ 0 ⟨0, 0⟩ p = addedF ⟨lo, hi⟩ k t (p.drop k)) ∧ M t.lo ∧ M t.hi ∧ Up w wr ∧
    (Cf wr w.heap.size 0 (.int .i64 lo) ∧ Cf wr w.heap.size 1 (.int .i64 hi)) ∧ (Cf wr (w.heap.size + 1) 0 (.int .i64 0) ∧ Cf wr (w.heap.size + 1) 1 (.int .i64 0)) ∧ (Cf wr (w.heap.size + 1 + 1) 0 (.int .i64 t.lo) ∧ Cf wr (w.heap.size + 1 + 1) 1 (.int .i64 t.hi)))
    (fun i _ => p.length - (intOf i).toNat)
  case atStart =>
    refine ⟨0, ⟨0, 0⟩, by omega, rfl, rfl, ⟨by decide, by decide⟩, ⟨by decide, by decide⟩, ?_, ⟨⟨by go_simp, by go_simp⟩, ⟨by go_simp, by go_simp⟩⟩, ⟨⟨by go_simp, by go_simp⟩, ⟨by go_simp, by go_simp⟩⟩, ⟨⟨by go_simp, by go_simp⟩, ⟨by go_simp, by go_simp⟩⟩⟩
    (repeat (first | (with_reducible exact Up.refl _) | (with_reducible assumption) | (with_reducible refine Up.alloc ?_ _) | (with_reducible refine Up.drew ?_) | ((with_reducible refine Up.set ?_ ?_ _); rotate_left; focus (first | omega | (simp; done) | (simp; omega))) | (with_reducible refine Up.drewN ?_ _) | (with_reducible refine Up.call ?_ (by with_reducible assumption))))
  case round =>
    obtain ⟨k, t, hk, rfl, H, m1, m2, hU, ⟨⟨c0, g0⟩, ⟨c1, g1⟩⟩, ⟨⟨c2, g2⟩, ⟨c3, g3⟩⟩, ⟨⟨c4, g4⟩, ⟨c5, g5⟩⟩⟩ := hrel
    have l2 := World.block_lt_of_cell? wr _ c4
    dsimp only at l2
    have l1 : w.heap.size + 1 < wr.heap.size := by omega
    have l0 : w.heap.size < wr.heap.size := by omega
    by_cases hlt : k < p.length
    · have hd : decide ((k : Int) < (p.length : Int)) = true := by simp; omega
      obtain ⟨b, o, rfl, hb, hc⟩ := Hr.out (by intro h; simp [h] at hlt)
      have hck : wr.cell? ⟨b, o + k, none⟩ = some (.int .i64 (p[k]?.getD 0)) := (Below.cell hU (p := ⟨b, o + k, none⟩) hb).trans (hc k hlt)
      have hn : M (p[k]?.getD 0) := M_getD hp k
      have Hdr := hid (getD_drop p k hlt)
      generalize p[k]?.getD 0 = n at *
      have Hra := hid (fun W => raised_any lo hi k W hx.1 hx.2.1 (by omega))
      have HM := hid (fun s (h : raisedF ⟨lo, hi⟩ k = .ok s) => raised_M hx.1 hx.2.1 h)
      have Hn := hid hn
      clear hc hn
      go_wp2_with ((go_at_call 191; refine (Hra.out _).mono ?_; rintro e w1 ⟨(n1|r), hx1, rfl, hb1⟩) <;> (obtain ⟨hc1, hf1⟩ := bcell hb1; obtain ⟨_, _, _⟩ : w.heap.size < w1.heap.size ∧ w.heap.size + 1 < w1.heap.size ∧ w.heap.size + 1 + 1 < w1.heap.size := (by have hle := Up.le hb1; first | omega | (simp at hle; omega) | (simp at hle; done))))
      · (refine bodyPost_res rfl ?_; simp only [results, Tryz.results224]; go_simp; refine resPost_ok ?_)
        refine RetX.mk (.error n1) ?_ ?_ rfl
        · (repeat (first | (with_reducible exact Up.refl _) | (with_reducible assumption) | (with_reducible refine Up.alloc ?_ _) | (with_reducible refine Up.drew ?_) | ((with_reducible refine Up.set ?_ ?_ _); rotate_left; focus (first | omega | (simp; done) | (simp; omega))) | (with_reducible refine Up.drewN ?_ _) | (with_reducible refine Up.call ?_ (by with_reducible assumption))))
        · rw [H.out, Hdr.out]; exact added_bad1 hx1
      · obtain ⟨m3, m4⟩ := HM.out r hx1
        have Hpr := hid (fun W => product_any n n r.lo r.hi W Hn.out Hn.out m3 m4)
        have Hx1 := hid hx1; clear hx1
        cases hx2 : prodF ⟨n, n⟩ r with
        | error n2 =>
          have Hx2 := hid hx2; clear hx2
          go_region_with (first
                        | ((go_at_call 142; refine (alone_any _ _).mono ?_; rintro e w2 ⟨x2, hx2, rfl, hb2⟩); subst hx2; obtain ⟨hc2, hf2⟩ := bcell hb2; obtain ⟨_, _, _⟩ : w.heap.size < w2.heap.size ∧ w.heap.size + 1 < w2.heap.size ∧ w.heap.size + 1 + 1 < w2.heap.size := (by have hle := Up.le hb2; first | omega | (simp at hle; omega) | (simp at hle; done)); have _ : w1.heap.size < w2.heap.size := (by have hle := Up.le hb2; first | omega | (simp at hle; omega) | (simp at hle; done)))
                        | ((go_at_call 186; refine (Hpr.out _).mono ?_; rintro e w3 ⟨x3, hx3, rfl, hb3⟩); rw [Hx2.out] at hx3; subst hx3; obtain ⟨hc3, hf3⟩ := bcell hb3; obtain ⟨_, _, _⟩ : w.heap.size < w3.heap.size ∧ w.heap.size + 1 < w3.heap.size ∧ w.heap.size + 1 + 1 < w3.heap.size := (by have hle := Up.le hb3; first | omega | (simp at hle; omega) | (simp at hle; done)); have _ : w1.heap.size < w3.heap.size := (by have hle := Up.le hb3; first | omega | (simp at hle; omega) | (simp at hle; done))))
          all_goals go_wp2
          all_goals
            (refine bodyPost_res rfl ?_; simp only [results, Tryz.results224]; go_simp; refine resPost_ok ?_)
            refine RetX.mk (.error n2) ?_ ?_ rfl
            · (repeat (first | (with_reducible exact Up.refl _) | (with_reducible assumption) | (with_reducible refine Up.alloc ?_ _) | (with_reducible refine Up.drew ?_) | ((with_reducible refine Up.set ?_ ?_ _); rotate_left; focus (first | omega | (simp; done) | (simp; omega))) | (with_reducible refine Up.drewN ?_ _) | (with_reducible refine Up.call ?_ (by with_reducible assumption))))
            · rw [H.out, Hdr.out]; exact added_bad2 Hx1.out Hx2.out
        | ok q =>
          obtain ⟨m5, m6⟩ := prod_M hx2
          have Hsu := hid (fun W => sum_any t.lo t.hi q.lo q.hi W m1 m2 m5 m6)
          have Hx2 := hid hx2; clear hx2
          go_region_with (first
                        | ((go_at_call 142; refine (alone_any _ _).mono ?_; rintro e w2 ⟨x2, hx2, rfl, hb2⟩); subst hx2; obtain ⟨hc2, hf2⟩ := bcell hb2; obtain ⟨_, _, _⟩ : w.heap.size < w2.heap.size ∧ w.heap.size + 1 < w2.heap.size ∧ w.heap.size + 1 + 1 < w2.heap.size := (by have hle := Up.le hb2; first | omega | (simp at hle; omega) | (simp at hle; done)); have _ : w1.heap.size < w2.heap.size := (by have hle := Up.le hb2; first | omega | (simp at hle; omega) | (simp at hle; done)))
                        | ((go_at_call 186; refine (Hpr.out _).mono ?_; rintro e w3 ⟨x3, hx3, rfl, hb3⟩); rw [Hx2.out] at hx3; subst hx3; obtain ⟨hc3, hf3⟩ := bcell hb3; obtain ⟨_, _, _⟩ : w.heap.size < w3.heap.size ∧ w.heap.size + 1 < w3.heap.size ∧ w.heap.size + 1 + 1 < w3.heap.size := (by have hle := Up.le hb3; first | omega | (simp at hle; omega) | (simp at hle; done)); have _ : w1.heap.size < w3.heap.size := (by have hle := Up.le hb3; first | omega | (simp at hle; omega) | (simp at hle; done))))
          all_goals go_wp2_with ((go_at_call 105; refine (Hsu.out _).mono ?_; rintro e w4 ⟨(n4|u), hx4, rfl, hb4⟩) <;> (obtain ⟨hc4, hf4⟩ := bcell hb4; obtain ⟨_, _, _⟩ : w.heap.size < w4.heap.size ∧ w.heap.size + 1 < w4.heap.size ∧ w.heap.size + 1 + 1 < w4.heap.size := (by have hle := Up.le hb4; first | omega | (simp at hle; omega) | (simp at hle; done)); have _ : w1.heap.size < w4.heap.size := (by have hle := Up.le hb4; first | omega | (simp at hle; omega) | (simp at hle; done))))
          · (refine bodyPost_res rfl ?_; simp only [results, Tryz.results224]; go_simp; refine resPost_ok ?_)
            refine RetX.mk (.error n4) ?_ ?_ rfl
            · (repeat (first | (with_reducible exact Up.refl _) | (with_reducible assumption) | (with_reducible refine Up.alloc ?_ _) | (with_reducible refine Up.drew ?_) | ((with_reducible refine Up.set ?_ ?_ _); rotate_left; focus (first | omega | (simp; done) | (simp; omega))) | (with_reducible refine Up.drewN ?_ _) | (with_reducible refine Up.call ?_ (by with_reducible assumption))))
            · rw [H.out, Hdr.out]; exact added_bad3 Hx1.out Hx2.out hx4
          · go_roundw
            case rel =>
              have hM := sum_M hx4
              refine ⟨k + 1, u, by omega, by go_num, ?_, hM.1, hM.2, ?_, ⟨⟨by go_simp, by go_simp⟩, ⟨by go_simp, by go_simp⟩⟩, ⟨⟨by go_simp, by go_simp⟩, ⟨by go_simp, by go_simp⟩⟩, ⟨⟨?_, by go_simp⟩, ⟨?_, by go_simp⟩⟩⟩
              · show _ = _
                rw [H.out, Hdr.out]; exact added_good Hx1.out Hx2.out hx4
              · (repeat (first | (with_reducible exact Up.refl _) | (with_reducible assumption) | (with_reducible refine Up.alloc ?_ _) | (with_reducible refine Up.drew ?_) | ((with_reducible refine Up.set ?_ ?_ _); rotate_left; focus (first | omega | (simp; done) | (simp; omega))) | (with_reducible refine Up.drewN ?_ _) | (with_reducible refine Up.call ?_ (by with_reducible assumption))))
              · go_simp
              · go_simp
            case measure => simp [intOf]; omega
          · (refine bodyPost_res rfl ?_; simp only [results, Tryz.results224]; go_simp; refine resPost_ok ?_)
            refine RetX.mk (.error n4) ?_ ?_ rfl
            · (repeat (first | (with_reducible exact Up.refl _) | (with_reducible assumption) | (with_reducible refine Up.alloc ?_ _) | (with_reducible refine Up.drew ?_) | ((with_reducible refine Up.set ?_ ?_ _); rotate_left; focus (first | omega | (simp; done) | (simp; omega))) | (with_reducible refine Up.drewN ?_ _) | (with_reducible refine Up.call ?_ (by with_reducible assumption))))
            · rw [H.out, Hdr.out]; exact added_bad3 Hx1.out Hx2.out hx4
          · go_roundw
            case rel =>
              have hM := sum_M hx4
              refine ⟨k + 1, u, by omega, by go_num, ?_, hM.1, hM.2, ?_, ⟨⟨by go_simp, by go_simp⟩, ⟨by go_simp, by go_simp⟩⟩, ⟨⟨by go_simp, by go_simp⟩, ⟨by go_simp, by go_simp⟩⟩, ⟨⟨?_, by go_simp⟩, ⟨?_, by go_simp⟩⟩⟩
              · show _ = _
                rw [H.out, Hdr.out]; exact added_good Hx1.out Hx2.out hx4
              · (repeat (first | (with_reducible exact Up.refl _) | (with_reducible assumption) | (with_reducible refine Up.alloc ?_ _) | (with_reducible refine Up.drew ?_) | ((with_reducible refine Up.set ?_ ?_ _); rotate_left; focus (first | omega | (simp; done) | (simp; omega))) | (with_reducible refine Up.drewN ?_ _) | (with_reducible refine Up.call ?_ (by with_reducible assumption))))
              · go_simp
              · go_simp
            case measure => simp [intOf]; omega
    · obtain rfl : k = p.length := by omega
      go_wp2
      (refine bodyPost_res rfl ?_; simp only [results, Tryz.results224]; go_simp; refine resPost_ok ?_)
      refine RetX.mk (.ok t) ?_ ?_ rfl
      · (repeat (first | (with_reducible exact Up.refl _) | (with_reducible assumption) | (with_reducible refine Up.alloc ?_ _) | (with_reducible refine Up.drew ?_) | ((with_reducible refine Up.set ?_ ?_ _); rotate_left; focus (first | omega | (simp; done) | (simp; omega))) | (with_reducible refine Up.drewN ?_ _) | (with_reducible refine Up.call ?_ (by with_reducible assumption))))
      · rw [H.out, List.drop_length]; rfl
end Go.Proofs.YtmjcnpolnknkkaaGreatDoor

namespace Go.Proofs.YtmjcnpolnknkkaaGreatDoor
open Go.RowKit

end Go.Proofs.YtmjcnpolnknkkaaGreatDoor

namespace Go.Proofs.YtmjcnpolnknkkaaGreatDoor
open Go.RowKit

def preL (L : List Int) : Except Nat (List Int) → Except Nat (List Int)
  | .error e => .error e
  | .ok l => .ok (L ++ l)
theorem preL_nil (r : Except Nat (List Int)) : preL [] r = r := by cases r <;> rfl
theorem slopeG_ok {k : Nat} {n : Int} {p L : List Int} (h : M (n * k)) : preL L (slopeG k (n :: p)) = preL (L ++ [n * k]) (slopeG (k + 1) p) := by
  conv => lhs; unfold slopeG
  rw [if_pos h]
  cases slopeG (k + 1) p <;> simp [preL]
theorem slopeG_bad {k : Nat} {n : Int} {p L : List Int} (h : ¬ M (n * k)) : preL L (slopeG k (n :: p)) = .error 4 := by
  unfold slopeG
  rw [if_neg h]
  rfl
theorem slope_one {p : List Int} (h : p.length = 1) : slopeF p = .ok [0] := by simp [slopeF, h]
theorem slope_more {p : List Int} (h : p.length ≠ 1) : slopeF p = preL [] (slopeG 1 (p.drop 1)) := by rw [preL_nil]; simp [slopeF, h, List.drop_one]

set_option maxRecDepth 100000 in
set_option maxHeartbeats 2000000 in
theorem slope_any (A : Option Addr) (p : List Int) (c : Nat) (w : World) (h0 : 0 < p.length) (h5 : p.length ≤ 5) (hcap : p.length ≤ c) (hr : RdI w A p) (hp : ∀ n ∈ p, M n) :
    Calls Tryz.prog 187 #[.slice A p.length c] w (RetR ilR (slopeF p) w) := by
  obtain ⟨b, o, rfl, hb, hc⟩ := hr (by intro h; simp [h] at h0)
  by_cases h1 : p.length = 1
  · rw [slope_one h1, h1]
    clear hc
    go_enter Tryz.func187, Tryz.ntmps187
    go_wp2
    go_ret2
    refine RetR.mk (.ok [0] : Except Nat (List Int)) ?_ rfl (rel := ilR) ⟨_, 1, rfl, fun _ => ⟨w.heap.size, 0, rfl, by simp, fun k hk => ?_⟩, by simp⟩
    · (repeat (first | (with_reducible exact Up.refl _) | (with_reducible assumption) | (with_reducible refine Up.alloc ?_ _) | (with_reducible refine Up.drew ?_) | ((with_reducible refine Up.set ?_ ?_ _); rotate_left; focus (first | omega | (simp; done) | (simp; omega))) | (with_reducible refine Up.drewN ?_ _) | (with_reducible refine Up.call ?_ (by with_reducible assumption))))
    · obtain rfl : k = 0 := by simpa using hk
      go_simp
  · rw [slope_more h1]
    obtain ⟨i0, hi0, hz0, hz1, hz2⟩ := info_parts Tryz.infoInt
    have hd1 : ((p.length : Int) == 1) = false := beq_eq_false_iff_ne.2 (by omega)
    have hc1 : ¬ c = 1 := by omega
    have hl1 : 1 ≤ p.length := by omega
    have Hc := hid hc; clear hc
    go_enter Tryz.func187, Tryz.ntmps187
    go_wp2
    go_loopw [4, 15] (fun v i wr => ∃ (k : Nat) (L : List Int), k ≤ p.length - 1 ∧ i = .int .i64 k ∧ Hid (L.length = k) ∧ wr.ownsRow w.heap.size 3 1 v L.length (ints L) ∧ Up w wr ∧ Hid (preL [] (slopeG 1 (p.drop 1)) = preL L (slopeG (k + 1) (p.drop (k + 1))))) (fun _ i _ => p.length - 1 - (intOf i).toNat)
    case atStart => exact ⟨0, [], by omega, rfl, rfl, World.ownsRow_nil _ _ _ _, Up.refl _, rfl⟩
    case round =>
      obtain ⟨k, L, hk, rfl, HL, hown, hU, H⟩ := hrel
      by_cases hlt : k < p.length - 1
      · have hd : decide ((k : Int) < ((p.length - 1 : Nat) : Int)) = true := by simp; omega
        have hck : wr.cell? ⟨b, o + 1 + k, none⟩ = some (.int .i64 (p[k + 1]?.getD 0)) := by
          have := Hc.out (k + 1) (by omega)
          rw [show o + (k + 1) = o + 1 + k by omega] at this
          exact (Below.cell hU (p := ⟨b, o + 1 + k, none⟩) hb).trans this
        have hn : M (p[k + 1]?.getD 0) := M_getD hp (k + 1)
        have Hdr := hid (getD_drop p (k + 1) (by omega))
        generalize p[k + 1]?.getD 0 = n at *
        obtain ⟨n1, n2⟩ := hn
        have n3 : -5000000000 ≤ n * ((k : Int) + 1) ∧ n * ((k : Int) + 1) ≤ 5000000000 := by
          have hk4 : k = 0 ∨ k = 1 ∨ k = 2 ∨ k = 3 := by omega
          rcases hk4 with rfl | rfl | rfl | rfl <;> simp <;> omega
        obtain ⟨n4, n5⟩ := n3
        have HL4 := hid (show L.length ≤ 4 by have := HL.out; omega)
        cases hm : mayB (n * ((k : Int) + 1)) with
        | false =>
          have Hm := hid hm; clear hm
          go_wp2_with ((go_at_call 39; refine (may_any _ _).mono ?_; rintro e w' ⟨rfl, rfl⟩); rw [Hm.out])
          go_ret2
          refine RetR.mk (.error 4 : Except Nat (List Int)) hU ?_ (rel := ilR) rfl
          rw [H.out, Hdr.out]
          exact slopeG_bad (fun h => mayB_false.1 Hm.out (by simpa using h))
        | true =>
          have Hm := hid hm; clear hm
          go_wp2_with (first
                        | ((go_at_call 39; refine (may_any _ _).mono ?_; rintro e w' ⟨rfl, rfl⟩); rw [Hm.out])
                        | (at_builtin; refine wpList_append_own_at _ rfl (.tmp 28) (.tmp 30) _ rfl w.heap.size 3 i0 (.int .i64 0) 1 8 Tryz.underlying71 hi0 hz0 hz1 hz2 rfl (by decide) _ _ _ rfl (hown.alloc _) ⟨wr.heap.size, 0, none⟩ 1 1 [.int .i64 (n * ((k : Int) + 1))] rfl rfl (cell_one_new _ _ _) (by simp [Value.oneCell']) (by have := HL4.out; unfold maxLen; omega) (by have := HL4.out; omega) (by have := hU.le; simp; omega) ?_; intro v8 w1 own8 g8 _ at8))
          go_roundw
          case rel =>
            refine ⟨k + 1, L ++ [n * ((k : Int) + 1)], by omega, by go_num, ?_, ?_, ?_, ?_⟩
            · show _ = _
              have := HL.out; simp; omega
            · rw [ints_snoc] at own8; simpa using own8
            · exact Below.grown (hU.alloc _) g8 (hU.alloc _).le (fun j hj => (hown.lt j hj).1)
            · show _ = _
              rw [H.out, Hdr.out]
              exact slopeG_ok (by have := mayB_true.1 Hm.out; simpa using this)
          case measure => simp [intOf]; omega
      · obtain rfl : k = p.length - 1 := by omega
        obtain ⟨g, cp, hv, _, hg⟩ := own_form hown (by have := HL.out; omega)
        have hcp : L.length ≤ cp := by
          rcases hown.2 with ⟨_, h⟩ | ⟨g', cap', cur, hv', _, _, hle, _⟩
          · have := HL.out; omega
          · rw [hv] at hv'; injection hv' with _ _ e3; omega
        have hrd := rdi_own hown hv hg
        rw [hv]
        have Hrd := hid hrd
        clear hown hv hrd
        go_wp2
        go_ret2
        refine RetR.mk (.ok L : Except Nat (List Int)) hU ?_ (rel := ilR) ⟨some ⟨g, 0, none⟩, cp, rfl, Hrd.out, hcp⟩
        rw [H.out, show p.length - 1 + 1 = p.length by omega, List.drop_length]
        simp [slopeG, preL]
end Go.Proofs.YtmjcnpolnknkkaaGreatDoor

namespace Go.Proofs.YtmjcnpolnknkkaaGreatDoor
open Go.RowKit

theorem ilR_error {w : World} {n : Nat} {v : Value} (h : ilR w (.error n) v) : v = .tuple #[.slice none 0 0, .iface 74 (.int .i64 n)] := h
theorem ilR_ok {w : World} {l : List Int} {v : Value} (h : ilR w (.ok l) v) : ∃ A c, v = .tuple #[.slice A l.length c, .nilIface] ∧ RdI w A l ∧ l.length ≤ c := h
theorem slopeG_bd : ∀ (k : Nat) (p l : List Int), slopeG k p = .ok l → l.length = p.length ∧ ∀ n ∈ l, M n
  | _, [], l, h => by simp [slopeG] at h; subst h; simp
  | k, n :: p, l, h => by
    unfold slopeG at h
    split at h
    · rename_i hM
      split at h
      · cases h
      · rename_i l' hl
        injection h with h
        subst h
        obtain ⟨h1, h2⟩ := slopeG_bd (k + 1) p l' hl
        exact ⟨by simp [h1], fun x hx => by
          rcases List.mem_cons.1 hx with e | e
          · rw [e]; exact hM
          · exact h2 x e⟩
    · cases h
theorem slope_bd {p l : List Int} (h5 : p.length ≤ 5) (h0 : 0 < p.length) (h : slopeF p = .ok l) : 0 < l.length ∧ l.length ≤ 5 ∧ ∀ n ∈ l, M n := by
  unfold slopeF at h
  split at h
  · injection h with h
    subst h
    exact ⟨by simp, by simp, fun x hx => by simp at hx; subst hx; exact ⟨by decide, by decide⟩⟩
  · obtain ⟨h1, h2⟩ := slopeG_bd _ _ _ h
    rw [List.length_tail] at h1
    exact ⟨by omega, by omega, h2⟩
theorem steep_bad {p : List Int} {x : Sp} {e : Nat} (h : slopeF p = .error e) : steepF p x = .error e := by simp [steepF, h]
theorem steep_good {p d : List Int} {x : Sp} (h : slopeF p = .ok d) : steepF p x = nestedF x d := by simp [steepF, h]

theorem steep_any (A : Option Addr) (p : List Int) (c : Nat) (lo hi : Int) (w : World) (h0 : 0 < p.length) (h5 : p.length ≤ 5) (hcap : p.length ≤ c) (hr : RdI w A p) (hp : ∀ n ∈ p, M n) (hx : Rt ⟨lo, hi⟩) :
    Calls Tryz.prog 145 #[.slice A p.length c, .agg #[.int .i64 lo, .int .i64 hi]] w (RetX spR (steepF p ⟨lo, hi⟩) w) := by
  have Hr := hid hr; clear hr
  have Hs := hid (fun W hW => slope_any A p c W h0 h5 hcap hW hp)
  cases hs : slopeF p with
  | error n =>
    rw [steep_bad hs]
    have HS := hid hs; clear hs hp
    go_enter Tryz.func145, Tryz.ntmps145
    go_wp2_with ((go_at_call 187; refine (Hs.out _ (Hr.out.up (by (repeat (first | (with_reducible exact Up.refl _) | (with_reducible assumption) | (with_reducible refine Up.alloc ?_ _) | (with_reducible refine Up.drew ?_) | ((with_reducible refine Up.set ?_ ?_ _); rotate_left; focus (first | omega | (simp; done) | (simp; omega))) | (with_reducible refine Up.drewN ?_ _) | (with_reducible refine Up.call ?_ (by with_reducible assumption))))))).mono ?_; rintro e w1 ⟨x, v, hx1, rfl, hv, hb1⟩; rw [HS.out] at hx1; subst hx1; obtain rfl := ilR_error hv) <;> (obtain ⟨hc1, hf1⟩ := bcell hb1; obtain ⟨_, _⟩ : w.heap.size < w1.heap.size ∧ w.heap.size + 1 < w1.heap.size := (by have hle := Up.le hb1; first | omega | (simp at hle; omega) | (simp at hle; done))))
    all_goals
      (refine bodyPost_res rfl ?_; simp only [results, Tryz.results145]; go_simp; refine resPost_ok ?_)
      refine RetX.mk (.error n : Except Nat Sp) ?_ rfl rfl
      (repeat (first | (with_reducible exact Up.refl _) | (with_reducible assumption) | (with_reducible refine Up.alloc ?_ _) | (with_reducible refine Up.drew ?_) | ((with_reducible refine Up.set ?_ ?_ _); rotate_left; focus (first | omega | (simp; done) | (simp; omega))) | (with_reducible refine Up.drewN ?_ _) | (with_reducible refine Up.call ?_ (by with_reducible assumption))))
  | ok d =>
    rw [steep_good hs]
    obtain ⟨d1, d2, d3⟩ := slope_bd h5 h0 hs
    have Hn := hid (fun A c W (hc : d.length ≤ c) (hW : RdI W A d) => nested_any A d c lo hi W d1 d2 hc hW d3 hx)
    have HS := hid hs; clear hs hp d3
    go_enter Tryz.func145, Tryz.ntmps145
    go_wp2_with (first
                        | ((go_at_call 187; refine (Hs.out _ (Hr.out.up (by (repeat (first | (with_reducible exact Up.refl _) | (with_reducible assumption) | (with_reducible refine Up.alloc ?_ _) | (with_reducible refine Up.drew ?_) | ((with_reducible refine Up.set ?_ ?_ _); rotate_left; focus (first | omega | (simp; done) | (simp; omega))) | (with_reducible refine Up.drewN ?_ _) | (with_reducible refine Up.call ?_ (by with_reducible assumption))))))).mono ?_; rintro e w1 ⟨x, v, hx1, rfl, hv, hb1⟩; rw [HS.out] at hx1; subst hx1; obtain ⟨A1, c1, rfl, hrd, hcp⟩ := ilR_ok hv; have Hrd := hid hrd; clear hrd hv) <;> (obtain ⟨hc1, hf1⟩ := bcell hb1; obtain ⟨_, _⟩ : w.heap.size < w1.heap.size ∧ w.heap.size + 1 < w1.heap.size := (by have hle := Up.le hb1; first | omega | (simp at hle; omega) | (simp at hle; done))))
                        | ((go_at_call 144; refine (Hn.out _ _ _ hcp (Hrd.out.up (by (repeat (first | (with_reducible exact Up.refl _) | (with_reducible assumption) | (with_reducible refine Up.alloc ?_ _) | (with_reducible refine Up.drew ?_) | ((with_reducible refine Up.set ?_ ?_ _); rotate_left; focus (first | omega | (simp; done) | (simp; omega))) | (with_reducible refine Up.drewN ?_ _) | (with_reducible refine Up.call ?_ (by with_reducible assumption))))))).mono ?_; rintro e w2 ⟨(n2|s), hx2, rfl, hb2⟩) <;> (obtain ⟨hc2, hf2⟩ := bcell hb2; obtain ⟨_, _⟩ : w.heap.size < w2.heap.size ∧ w.heap.size + 1 < w2.heap.size := (by have hle := Up.le hb2; first | omega | (simp at hle; omega) | (simp at hle; done)))))
    all_goals
      (refine bodyPost_res rfl ?_; simp only [results, Tryz.results145]; go_simp; refine resPost_ok ?_)
      first
        | refine RetX.mk (.error n2) ?_ ?_ rfl
        | refine RetX.mk (.ok s) ?_ ?_ rfl
      · (repeat (first | (with_reducible exact Up.refl _) | (with_reducible assumption) | (with_reducible refine Up.alloc ?_ _) | (with_reducible refine Up.drew ?_) | ((with_reducible refine Up.set ?_ ?_ _); rotate_left; focus (first | omega | (simp; done) | (simp; omega))) | (with_reducible refine Up.drewN ?_ _) | (with_reducible refine Up.call ?_ (by with_reducible assumption))))
      · first | exact hx2 | rfl
end Go.Proofs.YtmjcnpolnknkkaaGreatDoor
