/- The walks of package poly: Horner, Added, Powers. -/
import Derived.Test.YtafhcppigpjcpaaDoorNest
import Derived.Deep.RegionWith
set_option linter.unusedVariables false
set_option linter.unusedSimpArgs false
namespace Go.Proofs.YtafhcppigpjcpaaDoor
open Go.RowKit

theorem pboth_none {p : List Int} {x : Sp} (h : pbothF p x = none) : 0 < p.length ∧ p.length ≤ 5 ∧ (∀ n ∈ p, M n) ∧ Rt x := by
  unfold pbothF at h
  split at h
  · cases h
  · rename_i hp
    unfold pcheckF at hp
    split at hp
    · cases hp
    · split at hp
      · cases hp
      · split at hp
        · exact ⟨by omega, by omega, by assumption, checkF_none.1 h⟩
        · cases hp
theorem getD_drop (p : List Int) (k : Nat) (h : k < p.length) : p.drop k = (p[k]?.getD 0) :: p.drop (k + 1) := by
  rw [List.drop_eq_getElem_cons h, List.getElem?_eq_getElem h]; rfl

theorem added_bad1 {x s : Sp} {k e : Nat} {n : Int} {p : List Int} (h : raisedF x k = .error e) : addedF x k s (n :: p) = .error e := by
  unfold addedF; rw [h]
theorem added_bad2 {x s r : Sp} {k e : Nat} {n : Int} {p : List Int} (h : raisedF x k = .ok r) (h2 : prodF ⟨n, n⟩ r = .error e) : addedF x k s (n :: p) = .error e := by
  unfold addedF; rw [h]; dsimp only; rw [h2]
theorem added_bad3 {x s r t : Sp} {k e : Nat} {n : Int} {p : List Int} (h : raisedF x k = .ok r) (h2 : prodF ⟨n, n⟩ r = .ok t) (h3 : sumF s t = .error e) : addedF x k s (n :: p) = .error e := by
  unfold addedF; rw [h]; dsimp only; rw [h2]; dsimp only; rw [h3]
theorem added_good {x s r t u : Sp} {k : Nat} {n : Int} {p : List Int} (h : raisedF x k = .ok r) (h2 : prodF ⟨n, n⟩ r = .ok t) (h3 : sumF s t = .ok u) : addedF x k s (n :: p) = addedF x (k + 1) u p := by
  conv => lhs; unfold addedF
  rw [h]; dsimp only; rw [h2]; dsimp only; rw [h3]
theorem raised_M {a s : Sp} {t : Nat} (h1 : M a.lo) (h2 : M a.hi) (h : raisedF a t = .ok s) : M s.lo ∧ M s.hi := by
  have sg : ∀ (n : Int) (p : Int × Int), M n → signedF n t = .ok p → M p.1 ∧ M p.2 := by
    intro n p hn hp
    unfold signedF at hp
    obtain ⟨_, _⟩ := hn
    split at hp
    · obtain ⟨a1, a2, a3⟩ := again_bd n (by assumption) t p.1 p.2 hp
      exact ⟨⟨by omega, by omega⟩, ⟨by omega, by omega⟩⟩
    · split at hp
      · cases hp
      · rename_i l u hq
        injection hp with hp
        subst hp
        obtain ⟨a1, a2, a3⟩ := again_bd (-n) (by omega) t l u hq
        exact ⟨⟨by dsimp only; omega, by dsimp only; omega⟩, ⟨by dsimp only; omega, by dsimp only; omega⟩⟩
  have hp : M (if t % 2 = 0 then apartF a else (a.lo, a.hi)).1 ∧ M (if t % 2 = 0 then apartF a else (a.lo, a.hi)).2 := by
    split
    · exact apart_bd a h1 h2
    · exact ⟨h1, h2⟩
  unfold raisedF raisedG at h
  split at h
  · cases h
  · rename_i p1 hq1
    split at h
    · cases h
    · rename_i p2 hq2
      injection h with h
      subst h
      exact ⟨(sg _ _ hp.1 hq1).1, (sg _ _ hp.2 hq2).2⟩

set_option maxRecDepth 100000 in
set_option maxHeartbeats 4000000 in
theorem added_any (A : Option Addr) (p : List Int) (c : Nat) (lo hi : Int) (w : World) (h5 : p.length ≤ 5) (hr : RdI w A p) (hp : ∀ n ∈ p, M n) (hx : Rt ⟨lo, hi⟩) :
    Calls Tryd.prog 116 #[.slice A p.length c, .agg #[.int .i64 lo, .int .i64 hi]] w (RetX spR (addedF ⟨lo, hi⟩ 0 ⟨0, 0⟩ p) w) := by
  have Hr := hid hr; clear hr
  go_enter Tryd.func116, Tryd.ntmps116
  go_wp2
  go_loopw [13] (fun i wr => ∃ (k : Nat) (t : Sp), k ≤ p.length ∧ i = .int .i64 k ∧ Hid (addedF ⟨lo, hi⟩ 0 ⟨0, 0⟩ p = addedF ⟨lo, hi⟩ k t (p.drop k)) ∧ M t.lo ∧ M t.hi ∧ Up w wr ∧
    (Cf wr w.heap.size 0 (.int .i64 lo) ∧ Cf wr w.heap.size 1 (.int .i64 hi)) ∧ (Cf wr (w.heap.size + 1) 0 (.int .i64 0) ∧ Cf wr (w.heap.size + 1) 1 (.int .i64 0)) ∧ (Cf wr (w.heap.size + 1 + 1) 0 (.int .i64 t.lo) ∧ Cf wr (w.heap.size + 1 + 1) 1 (.int .i64 t.hi)))
    (fun i _ => p.length - (intOf i).toNat)
  case atStart =>
    refine ⟨0, ⟨0, 0⟩, by omega, rfl, rfl, ⟨by decide, by decide⟩, ⟨by decide, by decide⟩, ?_, ⟨⟨by go_simp, by go_simp⟩, ⟨by go_simp, by go_simp⟩⟩, ⟨⟨by go_simp, by go_simp⟩, ⟨by go_simp, by go_simp⟩⟩, ⟨⟨by go_simp, by go_simp⟩, ⟨by go_simp, by go_simp⟩⟩⟩
    (repeat (first | (with_reducible exact Up.refl _) | (with_reducible assumption) | (with_reducible refine Up.alloc ?_ _) | (with_reducible refine Up.drew ?_) | ((with_reducible refine Up.set ?_ ?_ _); rotate_left; focus (first | omega | (simp; done) | (simp; omega))) | (with_reducible refine Up.drewN ?_ _) | (with_reducible refine Up.call ?_ (by with_reducible assumption))))
  case round =>
    obtain ⟨k, t, hk, rfl, H, m1, m2, hU, ⟨⟨c0, g0⟩, ⟨c1, g1⟩⟩, ⟨⟨c2, g2⟩, ⟨c3, g3⟩⟩, ⟨⟨c4, g4⟩, ⟨c5, g5⟩⟩⟩ := hrel
    have l2 := World.block_lt_of_cell? wr _ c4
    dsimp only at l2
    have l1 : w.heap.size + 1 < wr.heap.size := by omega
    have l0 : w.heap.size < wr.heap.size := by omega
    by_cases hlt : k < p.length
    · have hd : decide ((k : Int) < (p.length : Int)) = true := by simp; omega
      obtain ⟨b, o, rfl, hb, hc⟩ := Hr.out (by intro h; simp [h] at hlt)
      have hck : wr.cell? ⟨b, o + k, none⟩ = some (.int .i64 (p[k]?.getD 0)) := (Below.cell hU (p := ⟨b, o + k, none⟩) hb).trans (hc k hlt)
      have hn : M (p[k]?.getD 0) := M_getD hp k
      have Hdr := hid (getD_drop p k hlt)
      generalize p[k]?.getD 0 = n at *
      have Hra := hid (fun W => raised_any lo hi k W hx.1 hx.2.1 (by omega))
      have HM := hid (fun s (h : raisedF ⟨lo, hi⟩ k = .ok s) => raised_M hx.1 hx.2.1 h)
      have Hn := hid hn
      clear hc hn
      go_wp2_with ((go_at_call 147; refine (Hra.out _).mono ?_; rintro e w1 ⟨(n1|r), hx1, rfl, hb1⟩) <;> (obtain ⟨hc1, hf1⟩ := bcell hb1; obtain ⟨_, _, _⟩ : w.heap.size < w1.heap.size ∧ w.heap.size + 1 < w1.heap.size ∧ w.heap.size + 1 + 1 < w1.heap.size := (by have hle := Up.le hb1; first | omega | (simp at hle; omega) | (simp at hle; done))))
      · (refine bodyPost_res rfl ?_; simp only [results, Tryd.results116]; go_simp; refine resPost_ok ?_)
        refine RetX.mk (.error n1) ?_ ?_ rfl
        · (repeat (first | (with_reducible exact Up.refl _) | (with_reducible assumption) | (with_reducible refine Up.alloc ?_ _) | (with_reducible refine Up.drew ?_) | ((with_reducible refine Up.set ?_ ?_ _); rotate_left; focus (first | omega | (simp; done) | (simp; omega))) | (with_reducible refine Up.drewN ?_ _) | (with_reducible refine Up.call ?_ (by with_reducible assumption))))
        · rw [H.out, Hdr.out]; exact added_bad1 hx1
      · obtain ⟨m3, m4⟩ := HM.out r hx1
        have Hpr := hid (fun W => product_any n n r.lo r.hi W Hn.out Hn.out m3 m4)
        have Hx1 := hid hx1; clear hx1
        cases hx2 : prodF ⟨n, n⟩ r with
        | error n2 =>
          have Hx2 := hid hx2; clear hx2
          go_region_with (first
                        | ((go_at_call 129; refine (alone_any _ _).mono ?_; rintro e w2 ⟨x2, hx2, rfl, hb2⟩); subst hx2; obtain ⟨hc2, hf2⟩ := bcell hb2; obtain ⟨_, _, _⟩ : w.heap.size < w2.heap.size ∧ w.heap.size + 1 < w2.heap.size ∧ w.heap.size + 1 + 1 < w2.heap.size := (by have hle := Up.le hb2; first | omega | (simp at hle; omega) | (simp at hle; done)); have _ : w1.heap.size < w2.heap.size := (by have hle := Up.le hb2; first | omega | (simp at hle; omega) | (simp at hle; done)))
                        | ((go_at_call 92; refine (Hpr.out _).mono ?_; rintro e w3 ⟨x3, hx3, rfl, hb3⟩); rw [Hx2.out] at hx3; subst hx3; obtain ⟨hc3, hf3⟩ := bcell hb3; obtain ⟨_, _, _⟩ : w.heap.size < w3.heap.size ∧ w.heap.size + 1 < w3.heap.size ∧ w.heap.size + 1 + 1 < w3.heap.size := (by have hle := Up.le hb3; first | omega | (simp at hle; omega) | (simp at hle; done)); have _ : w1.heap.size < w3.heap.size := (by have hle := Up.le hb3; first | omega | (simp at hle; omega) | (simp at hle; done))))
          all_goals go_wp2
          all_goals
            (refine bodyPost_res rfl ?_; simp only [results, Tryd.results116]; go_simp; refine resPost_ok ?_)
            refine RetX.mk (.error n2) ?_ ?_ rfl
            · (repeat (first | (with_reducible exact Up.refl _) | (with_reducible assumption) | (with_reducible refine Up.alloc ?_ _) | (with_reducible refine Up.drew ?_) | ((with_reducible refine Up.set ?_ ?_ _); rotate_left; focus (first | omega | (simp; done) | (simp; omega))) | (with_reducible refine Up.drewN ?_ _) | (with_reducible refine Up.call ?_ (by with_reducible assumption))))
            · rw [H.out, Hdr.out]; exact added_bad2 Hx1.out Hx2.out
        | ok q =>
          obtain ⟨m5, m6⟩ := prod_M hx2
          have Hsu := hid (fun W => sum_any t.lo t.hi q.lo q.hi W m1 m2 m5 m6)
          have Hx2 := hid hx2; clear hx2
          go_region_with (first
                        | ((go_at_call 129; refine (alone_any _ _).mono ?_; rintro e w2 ⟨x2, hx2, rfl, hb2⟩); subst hx2; obtain ⟨hc2, hf2⟩ := bcell hb2; obtain ⟨_, _, _⟩ : w.heap.size < w2.heap.size ∧ w.heap.size + 1 < w2.heap.size ∧ w.heap.size + 1 + 1 < w2.heap.size := (by have hle := Up.le hb2; first | omega | (simp at hle; omega) | (simp at hle; done)); have _ : w1.heap.size < w2.heap.size := (by have hle := Up.le hb2; first | omega | (simp at hle; omega) | (simp at hle; done)))
                        | ((go_at_call 92; refine (Hpr.out _).mono ?_; rintro e w3 ⟨x3, hx3, rfl, hb3⟩); rw [Hx2.out] at hx3; subst hx3; obtain ⟨hc3, hf3⟩ := bcell hb3; obtain ⟨_, _, _⟩ : w.heap.size < w3.heap.size ∧ w.heap.size + 1 < w3.heap.size ∧ w.heap.size + 1 + 1 < w3.heap.size := (by have hle := Up.le hb3; first | omega | (simp at hle; omega) | (simp at hle; done)); have _ : w1.heap.size < w3.heap.size := (by have hle := Up.le hb3; first | omega | (simp at hle; omega) | (simp at hle; done))))
          all_goals go_wp2_with ((go_at_call 85; refine (Hsu.out _).mono ?_; rintro e w4 ⟨(n4|u), hx4, rfl, hb4⟩) <;> (obtain ⟨hc4, hf4⟩ := bcell hb4; obtain ⟨_, _, _⟩ : w.heap.size < w4.heap.size ∧ w.heap.size + 1 < w4.heap.size ∧ w.heap.size + 1 + 1 < w4.heap.size := (by have hle := Up.le hb4; first | omega | (simp at hle; omega) | (simp at hle; done)); have _ : w1.heap.size < w4.heap.size := (by have hle := Up.le hb4; first | omega | (simp at hle; omega) | (simp at hle; done))))
          · (refine bodyPost_res rfl ?_; simp only [results, Tryd.results116]; go_simp; refine resPost_ok ?_)
            refine RetX.mk (.error n4) ?_ ?_ rfl
            · (repeat (first | (with_reducible exact Up.refl _) | (with_reducible assumption) | (with_reducible refine Up.alloc ?_ _) | (with_reducible refine Up.drew ?_) | ((with_reducible refine Up.set ?_ ?_ _); rotate_left; focus (first | omega | (simp; done) | (simp; omega))) | (with_reducible refine Up.drewN ?_ _) | (with_reducible refine Up.call ?_ (by with_reducible assumption))))
            · rw [H.out, Hdr.out]; exact added_bad3 Hx1.out Hx2.out hx4
          · go_roundw
            case rel =>
              have hM := sum_M hx4
              refine ⟨k + 1, u, by omega, by go_num, ?_, hM.1, hM.2, ?_, ⟨⟨by go_simp, by go_simp⟩, ⟨by go_simp, by go_simp⟩⟩, ⟨⟨by go_simp, by go_simp⟩, ⟨by go_simp, by go_simp⟩⟩, ⟨⟨?_, by go_simp⟩, ⟨?_, by go_simp⟩⟩⟩
              · show _ = _
                rw [H.out, Hdr.out]; exact added_good Hx1.out Hx2.out hx4
              · (repeat (first | (with_reducible exact Up.refl _) | (with_reducible assumption) | (with_reducible refine Up.alloc ?_ _) | (with_reducible refine Up.drew ?_) | ((with_reducible refine Up.set ?_ ?_ _); rotate_left; focus (first | omega | (simp; done) | (simp; omega))) | (with_reducible refine Up.drewN ?_ _) | (with_reducible refine Up.call ?_ (by with_reducible assumption))))
              · go_simp
              · go_simp
            case measure => simp [intOf]; omega
          · (refine bodyPost_res rfl ?_; simp only [results, Tryd.results116]; go_simp; refine resPost_ok ?_)
            refine RetX.mk (.error n4) ?_ ?_ rfl
            · (repeat (first | (with_reducible exact Up.refl _) | (with_reducible assumption) | (with_reducible refine Up.alloc ?_ _) | (with_reducible refine Up.drew ?_) | ((with_reducible refine Up.set ?_ ?_ _); rotate_left; focus (first | omega | (simp; done) | (simp; omega))) | (with_reducible refine Up.drewN ?_ _) | (with_reducible refine Up.call ?_ (by with_reducible assumption))))
            · rw [H.out, Hdr.out]; exact added_bad3 Hx1.out Hx2.out hx4
          · go_roundw
            case rel =>
              have hM := sum_M hx4
              refine ⟨k + 1, u, by omega, by go_num, ?_, hM.1, hM.2, ?_, ⟨⟨by go_simp, by go_simp⟩, ⟨by go_simp, by go_simp⟩⟩, ⟨⟨by go_simp, by go_simp⟩, ⟨by go_simp, by go_simp⟩⟩, ⟨⟨?_, by go_simp⟩, ⟨?_, by go_simp⟩⟩⟩
              · show _ = _
                rw [H.out, Hdr.out]; exact added_good Hx1.out Hx2.out hx4
              · (repeat (first | (with_reducible exact Up.refl _) | (with_reducible assumption) | (with_reducible refine Up.alloc ?_ _) | (with_reducible refine Up.drew ?_) | ((with_reducible refine Up.set ?_ ?_ _); rotate_left; focus (first | omega | (simp; done) | (simp; omega))) | (with_reducible refine Up.drewN ?_ _) | (with_reducible refine Up.call ?_ (by with_reducible assumption))))
              · go_simp
              · go_simp
            case measure => simp [intOf]; omega
    · obtain rfl : k = p.length := by omega
      go_wp2
      (refine bodyPost_res rfl ?_; simp only [results, Tryd.results116]; go_simp; refine resPost_ok ?_)
      refine RetX.mk (.ok t) ?_ ?_ rfl
      · (repeat (first | (with_reducible exact Up.refl _) | (with_reducible assumption) | (with_reducible refine Up.alloc ?_ _) | (with_reducible refine Up.drew ?_) | ((with_reducible refine Up.set ?_ ?_ _); rotate_left; focus (first | omega | (simp; done) | (simp; omega))) | (with_reducible refine Up.drewN ?_ _) | (with_reducible refine Up.call ?_ (by with_reducible assumption))))
      · rw [H.out, List.drop_length]; rfl
end Go.Proofs.YtafhcppigpjcpaaDoor
