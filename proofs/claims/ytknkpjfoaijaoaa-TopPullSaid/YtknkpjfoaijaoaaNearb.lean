/- The walks of near.one, Bound, Pull, Steep. -/
import Derived.Test.YtknkpjfoaijaoaaNear
import Derived.Test.YtknkpjfoaijaoaaHold

set_option linter.unusedVariables false
set_option linter.unusedSimpArgs false
namespace Go.Proofs.Ytknkpjfoaijaoaa
open Go.RowKit

theorem firstBadT_terms {k : Nat} {f : List Tm} (h : firstBadT k f = none) : ∀ t ∈ f, (∀ i, 0 ≤ t.time i ∧ t.time i ≤ 3) ∧ M t.by_ := fun t ht => by
  have := tcheck_ok (firstBadT_at h t ht)
  exact ⟨this.1, this.2.2⟩
theorem tcheck_of {t : Tm} {n : Nat} (h1 : M t.by_) (h2 : ¬ (t.t0 < 0 ∨ 3 < t.t0 ∨ t.t1 < 0 ∨ 3 < t.t1 ∨ t.t2 < 0 ∨ 3 < t.t2)) (h3 : ¬ 3 < t.t0 + t.t1 + t.t2) (h4 : ¬ ((n ≤ 1 ∧ 0 < t.t1) ∨ (n ≤ 2 ∧ 0 < t.t2))) : tcheckF t n = none := by
  unfold tcheckF
  rw [if_neg (by simpa using h1), if_neg h2, if_neg h3, if_neg h4]
theorem dec_check {t : Tm} {n k : Nat} (hk : k < 3) (h : tcheckF t n = none) (hne : t.time k ≠ 0) (hM : M (t.dec k).by_) : tcheckF (t.dec k) n = none := by
  unfold tcheckF at h
  split at h
  · cases h
  · split at h
    · cases h
    · split at h
      · cases h
      · split at h
        · cases h
        · rename_i h1 h2 h3 h4
          match k, hk with
          | 0, _ =>
            have hne : t.t0 ≠ 0 := hne
            refine tcheck_of hM ?_ ?_ ?_ <;> (show ¬ _; simp only [Tm.dec]; omega)
          | 1, _ =>
            have hne : t.t1 ≠ 0 := hne
            refine tcheck_of hM ?_ ?_ ?_ <;> (show ¬ _; simp only [Tm.dec]; omega)
          | 2, _ =>
            have hne : t.t2 ≠ 0 := hne
            refine tcheck_of hM ?_ ?_ ?_ <;> (show ¬ _; simp only [Tm.dec]; omega)
theorem steepG_ok {n k : Nat} (hk : k < 3) : ∀ (f d : List Tm), firstBadT n f = none → nsteepG k f = .ok d → firstBadT n d = none ∧ d.length ≤ f.length
  | [], d, _, h => by
    unfold nsteepG at h
    injection h with h
    subst h
    exact ⟨rfl, Nat.le_refl _⟩
  | t :: f, d, hf, h => by
    unfold firstBadT at hf
    split at hf
    · cases hf
    · rename_i hc
      unfold nsteepG at h
      split at h
      · obtain ⟨h1, h2⟩ := steepG_ok hk f d hf h
        exact ⟨h1, by simp; omega⟩
      · rename_i hne
        split at h
        · rename_i hM
          split at h
          · cases h
          · rename_i r hr
            injection h with h
            subst h
            obtain ⟨h1, h2⟩ := steepG_ok hk f r hf hr
            refine ⟨?_, by simp; omega⟩
            unfold firstBadT
            rw [dec_check hk hc hne hM]
            exact h1
        · cases h
theorem apartT_bd {x : Sp} (h : Rt x) : 0 ≤ (apartF x).2 ∧ (apartF x).2 ≤ 1000000000 := by
  obtain ⟨⟨a1, a2⟩, ⟨a3, a4⟩, a5⟩ := h
  show 0 ≤ max x.hi (-x.lo) ∧ max x.hi (-x.lo) ≤ 1000000000
  omega
theorem boneG_bad1 {f : List Tm} {b : List Sp} {k n e : Nat} {s : Int} (h : nsteepG k f = .error e) : boneG f b k (n + 1) s = .error e := by
  unfold boneG; rw [h]
theorem boneG_bad2 {f d : List Tm} {b : List Sp} {k n e : Nat} {s : Int} (h : nsteepG k f = .ok d) (h2 : foverF d b = .error e) : boneG f b k (n + 1) s = .error e := by
  unfold boneG; rw [h]; dsimp only; rw [h2]
theorem boneG_go {f d : List Tm} {b : List Sp} {k n : Nat} {s : Int} {x : Sp} (h : nsteepG k f = .ok d) (h2 : foverF d b = .ok x) : boneG f b k (n + 1) s = boneG f b (k + 1) n (s + (apartF x).2) := by
  conv => lhs; unfold boneG
  rw [h]; dsimp only; rw [h2]
theorem over_rt {d : List Tm} {b : List Sp} {x : Sp} (hb : ∀ s ∈ b, Rt s) (h : foverF d b = .ok x) : Rt x := by
  obtain ⟨u, k1, -, k3⟩ := fover_iso (parts_refl hb) h
  rw [h] at k1
  injection k1 with k1
  subst k1
  have := fover_M h
  exact ⟨this.1, this.2, k3⟩
theorem far_of {x : Sp} (h : Rt x) : farF x = .ok (apartF x) := by unfold farF; rw [checkF_none.2 h]
set_option maxRecDepth 100000 in
set_option maxHeartbeats 4000000 in
theorem bone_any (f : List Tm) (A B : Option Addr) (b : List Sp) (c d kk : Nat) (w : World) (hf : RdT w A f) (hr : RdS w B b) (h3 : b.length ≤ 3) (hs : ∀ s ∈ b, Rt s) (hc : firstBadT kk f = none) (hm : f.length ≤ 1000) :
    Calls Try.prog 29 #[.slice A f.length c, .slice B b.length d] w (RetX intR (boneG f b 0 b.length 0) w) := by
  have Hf := hid hf; have Hr := hid hr; have H3 := hid h3; have HS := hid hs; have Hc := hid hc; have Hm := hid hm
  clear hf hr h3 hs hc hm
  go_enter Try.func29, Try.ntmps29
  go_wp2
  go_loopw [6, 15] (fun v i wr => ∃ (k : Nat) (s : Int), k ≤ b.length ∧ v = .int .i64 s ∧ i = .int .i64 k ∧ Hid (boneG f b 0 b.length 0 = boneG f b k (b.length - k) s) ∧ Hid (0 ≤ s ∧ s ≤ k * 1000000000) ∧ Up w wr) (fun _ i _ => b.length - (intOf i).toNat)
  case atStart => exact ⟨0, 0, by omega, rfl, rfl, rfl, ⟨by omega, by omega⟩, Up.refl _⟩
  case round =>
    obtain ⟨k, s, hk, rfl, rfl, H, Hsb, hU⟩ := hrel
    have gr := (bcell hU).1
    have hle := hU.le
    by_cases hlt : k < b.length
    · have Hlt := hid hlt
      have Hk3 := hid (show k < 3 by have := H3.out; omega)
      have Hnk := hid (show b.length - k = (b.length - (k + 1)) + 1 by omega)
      have hdk : decide ((k : Int) < (b.length : Int)) = true := by simp; omega
      have hk0 : (0 : Int) ≤ (k : Int) := by omega
      have hk9 : (k : Int) < 3 := by have := H3.out; omega
      clear gr hlt
      cases hst : nsteepG k f with
      | error e =>
        have Hst := hid hst; clear hst
        go_wp2_with (first
                        | ((go_at_call 44; refine (tsteep_any f _ _ k _ (Hf.out.up (by (repeat (first | (with_reducible exact Up.refl _) | (with_reducible assumption) | (with_reducible refine Up.alloc ?_ _) | (with_reducible refine Up.drew ?_) | ((with_reducible refine Up.set ?_ ?_ _); rotate_left; focus (first | omega | (simp; done) | (simp; omega))) | (with_reducible refine Up.drewN ?_ _) | (with_reducible refine Up.call ?_ (by with_reducible assumption)))))) Hm.out (firstBadT_terms Hc.out) Hk3.out).mono ?_; rintro e w2 ⟨x2, v2, hx2, rfl, hv2, hb2⟩); rw [Hst.out] at hx2; subst hx2; obtain rfl := tlE_error hv2; clear hv2))
        go_ret2
        refine RetX.mk (.error e : Except Nat Int) ?_ ?_ rfl
        · (repeat (first | (with_reducible exact Up.refl _) | (with_reducible assumption) | (with_reducible refine Up.alloc ?_ _) | (with_reducible refine Up.drew ?_) | ((with_reducible refine Up.set ?_ ?_ _); rotate_left; focus (first | omega | (simp; done) | (simp; omega))) | (with_reducible refine Up.drewN ?_ _) | (with_reducible refine Up.call ?_ (by with_reducible assumption))))
        · rw [H.out, Hnk.out]; exact boneG_bad1 Hst.out
      | ok dd =>
        obtain ⟨hd1, hd2⟩ := steepG_ok Hk3.out f dd Hc.out hst
        have Hd1 := hid hd1; have Hd2 := hid hd2
        have Hst := hid hst; clear hst hd1 hd2
        cases hov : foverF dd b with
        | error e =>
          have Hov := hid hov; clear hov
          go_wp2_with (first
                        | ((go_at_call 44; refine (tsteep_any f _ _ k _ (Hf.out.up (by (repeat (first | (with_reducible exact Up.refl _) | (with_reducible assumption) | (with_reducible refine Up.alloc ?_ _) | (with_reducible refine Up.drew ?_) | ((with_reducible refine Up.set ?_ ?_ _); rotate_left; focus (first | omega | (simp; done) | (simp; omega))) | (with_reducible refine Up.drewN ?_ _) | (with_reducible refine Up.call ?_ (by with_reducible assumption)))))) Hm.out (firstBadT_terms Hc.out) Hk3.out).mono ?_; rintro e w2 ⟨x2, v2, hx2, rfl, hv2, hb2⟩); rw [Hst.out] at hx2; subst hx2; obtain ⟨A2, c2, rfl, hrd2, -⟩ := tlE_ok hv2; have Hrd2 := hid hrd2; clear hv2 hrd2; obtain ⟨hd2, hf2⟩ := bcell hb2)
                        | ((go_at_call 33; refine (fover_any dd _ _ b _ _ _ kk (Hrd2.out.up (by (repeat (first | (with_reducible exact Up.refl _) | (with_reducible assumption) | (with_reducible refine Up.alloc ?_ _) | (with_reducible refine Up.drew ?_) | ((with_reducible refine Up.set ?_ ?_ _); rotate_left; focus (first | omega | (simp; done) | (simp; omega))) | (with_reducible refine Up.drewN ?_ _) | (with_reducible refine Up.call ?_ (by with_reducible assumption)))))) (Hr.out.up (by (repeat (first | (with_reducible exact Up.refl _) | (with_reducible assumption) | (with_reducible refine Up.alloc ?_ _) | (with_reducible refine Up.drew ?_) | ((with_reducible refine Up.set ?_ ?_ _); rotate_left; focus (first | omega | (simp; done) | (simp; omega))) | (with_reducible refine Up.drewN ?_ _) | (with_reducible refine Up.call ?_ (by with_reducible assumption)))))) H3.out HS.out Hd1.out (Nat.le_trans Hd2.out Hm.out)).mono ?_; rintro e w4 ⟨x4, hx4, rfl, hb4⟩); rw [Hov.out] at hx4; subst hx4; obtain ⟨hd4, hf4⟩ := bcell hb4))
          go_ret2
          refine RetX.mk (.error e : Except Nat Int) ?_ ?_ rfl
          · (repeat (first | (with_reducible exact Up.refl _) | (with_reducible assumption) | (with_reducible refine Up.alloc ?_ _) | (with_reducible refine Up.drew ?_) | ((with_reducible refine Up.set ?_ ?_ _); rotate_left; focus (first | omega | (simp; done) | (simp; omega))) | (with_reducible refine Up.drewN ?_ _) | (with_reducible refine Up.call ?_ (by with_reducible assumption))))
          · rw [H.out, Hnk.out]; exact boneG_bad2 Hst.out Hov.out
        | ok x =>
          have Hx := hid (over_rt HS.out hov)
          have Hov := hid hov; clear hov
          obtain ⟨a1, a2⟩ := apartT_bd Hx.out
          have Hfar := hid (show farF ⟨x.lo, x.hi⟩ = .ok ((apartF x).1, (apartF x).2) from far_of Hx.out)
          have Hgo := hid (boneG_go (s := s) (n := b.length - (k + 1)) Hst.out Hov.out)
          have hb1 : 0 ≤ s + (apartF x).2 := by have := Hsb.out; omega
          have hb2 : s + (apartF x).2 ≤ 4000000000 := by have := Hsb.out; have := Hk3.out; omega
          generalize (apartF x).1 = p1 at *
          generalize (apartF x).2 = p2 at *
          go_wp2_with (first
                        | ((go_at_call 44; refine (tsteep_any f _ _ k _ (Hf.out.up (by (repeat (first | (with_reducible exact Up.refl _) | (with_reducible assumption) | (with_reducible refine Up.alloc ?_ _) | (with_reducible refine Up.drew ?_) | ((with_reducible refine Up.set ?_ ?_ _); rotate_left; focus (first | omega | (simp; done) | (simp; omega))) | (with_reducible refine Up.drewN ?_ _) | (with_reducible refine Up.call ?_ (by with_reducible assumption)))))) Hm.out (firstBadT_terms Hc.out) Hk3.out).mono ?_; rintro e w2 ⟨x2, v2, hx2, rfl, hv2, hb2⟩); rw [Hst.out] at hx2; subst hx2; obtain ⟨A2, c2, rfl, hrd2, -⟩ := tlE_ok hv2; have Hrd2 := hid hrd2; clear hv2 hrd2; obtain ⟨hd2, hf2⟩ := bcell hb2)
                        | ((go_at_call 33; refine (fover_any dd _ _ b _ _ _ kk (Hrd2.out.up (by (repeat (first | (with_reducible exact Up.refl _) | (with_reducible assumption) | (with_reducible refine Up.alloc ?_ _) | (with_reducible refine Up.drew ?_) | ((with_reducible refine Up.set ?_ ?_ _); rotate_left; focus (first | omega | (simp; done) | (simp; omega))) | (with_reducible refine Up.drewN ?_ _) | (with_reducible refine Up.call ?_ (by with_reducible assumption)))))) (Hr.out.up (by (repeat (first | (with_reducible exact Up.refl _) | (with_reducible assumption) | (with_reducible refine Up.alloc ?_ _) | (with_reducible refine Up.drew ?_) | ((with_reducible refine Up.set ?_ ?_ _); rotate_left; focus (first | omega | (simp; done) | (simp; omega))) | (with_reducible refine Up.drewN ?_ _) | (with_reducible refine Up.call ?_ (by with_reducible assumption)))))) H3.out HS.out Hd1.out (Nat.le_trans Hd2.out Hm.out)).mono ?_; rintro e w4 ⟨x4, hx4, rfl, hb4⟩); rw [Hov.out] at hx4; subst hx4; obtain ⟨hd4, hf4⟩ := bcell hb4)
                        | ((go_at_call 45; refine (far_any _ _ _).mono ?_; rintro e w5 ⟨x5, hx5, rfl, hb5⟩); rw [Hfar.out] at hx5; subst hx5; obtain ⟨hd5, hf5⟩ := bcell hb5))
          go_roundw
          case rel =>
            refine ⟨k + 1, s + p2, by have := Hlt.out; omega, rfl, by go_num, ?_, ?_, ?_⟩
            · show _ = _
              rw [H.out, Hnk.out, Hgo.out]
            · have := Hsb.out
              show _ ∧ _
              omega
            · (repeat (first | (with_reducible exact Up.refl _) | (with_reducible assumption) | (with_reducible refine Up.alloc ?_ _) | (with_reducible refine Up.drew ?_) | ((with_reducible refine Up.set ?_ ?_ _); rotate_left; focus (first | omega | (simp; done) | (simp; omega))) | (with_reducible refine Up.drewN ?_ _) | (with_reducible refine Up.call ?_ (by with_reducible assumption))))
          case measure => have := Hlt.out; simp [intOf]; omega
    · obtain rfl : k = b.length := by omega
      obtain ⟨s1, s2⟩ := Hsb.out
      have hb1 : s ≤ 4000000000 := by have := H3.out; omega
      have Hfin := hid (show boneG f b 0 b.length 0 = (if M s then .ok s else .error 4) by rw [H.out, Nat.sub_self]; rfl)
      clear gr
      cases hmm : mayB s with
      | false =>
        have Hmm := hid hmm; clear hmm
        go_wp2_with (first
                        | ((go_at_call 39; refine (may_any _ _).mono ?_; rintro e w' ⟨rfl, rfl⟩); rw [Hmm.out]))
        go_ret2
        refine RetX.mk (.error 4 : Except Nat Int) hU ?_ rfl
        rw [Hfin.out, if_neg (mayB_false.1 Hmm.out)]
      | true =>
        have Hmm := hid hmm; clear hmm
        go_wp2_with (first
                        | ((go_at_call 39; refine (may_any _ _).mono ?_; rintro e w' ⟨rfl, rfl⟩); rw [Hmm.out]))
        go_ret2
        refine RetX.mk (.ok s : Except Nat Int) hU ?_ rfl
        rw [Hfin.out, if_pos (mayB_true.1 Hmm.out)]
theorem boundG_bad {b : List Sp} {m : Int} {f : List Tm} {l : List (List Tm)} {e : Nat} (h : boneG f b 0 b.length 0 = .error e) : boundG b m (f :: l) = .error e := by
  unfold boundG; rw [h]
theorem boundG_go {b : List Sp} {m n : Int} {f : List Tm} {l : List (List Tm)} (h : boneG f b 0 b.length 0 = .ok n) : boundG b m (f :: l) = boundG b (max m n) l := by
  conv => lhs; unfold boundG
  rw [h]
theorem bone_M {f : List Tm} {b : List Sp} : ∀ (n k : Nat) (s r : Int), boneG f b k n s = .ok r → M r
  | 0, k, s, r, h => by
    unfold boneG at h
    split at h
    · injection h with h
      rw [← h]; assumption
    · cases h
  | n + 1, k, s, r, h => by
    unfold boneG at h
    split at h
    · cases h
    · split at h
      · cases h
      · exact bone_M n _ _ _ h
set_option maxRecDepth 100000 in
set_option maxHeartbeats 4000000 in
theorem bound_any (A B C : Option Addr) (s : Sy) (b : List Sp) (c d e : Nat) (w : World) (hY : RY w A B s) (hb : RdS w C b) :
    Calls Try.prog 13 #[.agg #[.slice A s.next.length c, .slice B s.push.length d], .slice C b.length e] w (RetX intR (boundF s b) w) := by
  have HY := hid hY; have Hb := hid hb; clear hY hb
  cases hrd : readyF s b with
  | some e0 =>
    have hr : boundF s b = .error e0 := by unfold boundF; rw [hrd]; rfl
    rw [hr]
    have Hrd := hid hrd; clear hrd hr
    go_enter Try.func13, Try.ntmps13
    go_wp2_with (first
                        | ((go_at_call 17; (with_reducible refine (ready_any _ _ _ s b _ _ _ _ (HY.out.up (by (repeat (first | (with_reducible exact Up.refl _) | (with_reducible assumption) | (with_reducible refine Up.alloc ?_ _) | (with_reducible refine Up.drew ?_) | ((with_reducible refine Up.set ?_ ?_ _); rotate_left; focus (first | omega | (simp; done) | (simp; omega))) | (with_reducible refine Up.drewN ?_ _) | (with_reducible refine Up.call ?_ (by with_reducible assumption)))))) (Hb.out.up (by (repeat (first | (with_reducible exact Up.refl _) | (with_reducible assumption) | (with_reducible refine Up.alloc ?_ _) | (with_reducible refine Up.drew ?_) | ((with_reducible refine Up.set ?_ ?_ _); rotate_left; focus (first | omega | (simp; done) | (simp; omega))) | (with_reducible refine Up.drewN ?_ _) | (with_reducible refine Up.call ?_ (by with_reducible assumption))))))).mono ?_); rintro e w1 ⟨x1, hx1, rfl, hb1⟩ <;> (rw [Hrd.out] at hx1; subst hx1)) <;> (have hle := Up.le hb1; (try simp only [World.size_alloc, World.size_setCell, World.size_drew, World.heap_drewN] at hle); (try (have _ : w.heap.size < w1.heap.size := (by omega); (try (apply fk hb1 (w.heap.size); (focus (go_simp; rfl)); (focus (intro o; go_simp)); intro z; (try clear f_0); have f_0 := z; clear z)); (try (apply ck hb1 (w.heap.size) 0; (focus (go_simp; rfl)); intro z; (try clear c_0_0); have c_0_0 := z; clear z; (try (apply ck hb1 (w.heap.size) 1; (focus (go_simp; rfl)); intro z; (try clear c_0_1); have c_0_1 := z; clear z)))); (try (have _ : w.heap.size + 1 < w1.heap.size := (by omega); (try (apply fk hb1 (w.heap.size + 1); (focus (go_simp; rfl)); (focus (intro o; go_simp)); intro z; (try clear f_1); have f_1 := z; clear z)); (try (apply ck hb1 (w.heap.size + 1) 0; (focus (go_simp; rfl)); intro z; (try clear c_1_0); have c_1_0 := z; clear z; (try (apply ck hb1 (w.heap.size + 1) 1; (focus (go_simp; rfl)); intro z; (try clear c_1_1); have c_1_1 := z; clear z)))))))); clear hle; (try (apply old_keep (w0 := w) (w := w1); (focus ((repeat (first | (with_reducible exact Up.refl _) | (with_reducible assumption) | (with_reducible refine Up.alloc ?_ _) | (with_reducible refine Up.drew ?_) | ((with_reducible refine Up.set ?_ ?_ _); rotate_left; focus (first | omega | (simp; done) | (simp; omega))) | (with_reducible refine Up.drewN ?_ _) | (with_reducible refine Up.call ?_ (by with_reducible assumption)))))); intro y z; (try clear hUp); (try clear hOld); have hUp := y; have hOld := z; clear y z)))))
    go_ret2
    refine RetX.mk (.error e0 : Except Nat Int) ?_ rfl rfl
    (repeat (first | (with_reducible exact Up.refl _) | (with_reducible assumption) | (with_reducible refine Up.alloc ?_ _) | (with_reducible refine Up.drew ?_) | ((with_reducible refine Up.set ?_ ?_ _); rotate_left; focus (first | omega | (simp; done) | (simp; omega))) | (with_reducible refine Up.drewN ?_ _) | (with_reducible refine Up.call ?_ (by with_reducible assumption))))
  | none =>
    have hr : boundF s b = boundG b 0 s.next := by unfold boundF; rw [hrd]; rfl
    rw [hr]
    obtain ⟨hs, hB, hl⟩ := ready_good hrd
    have HS := hid hs; have HB := hid hB
    have Hrd := hid hrd; clear hrd hr hs hB hl
    go_enter Try.func13, Try.ntmps13
    go_wp2_with (first
                        | ((go_at_call 17; (with_reducible refine (ready_any _ _ _ s b _ _ _ _ (HY.out.up (by (repeat (first | (with_reducible exact Up.refl _) | (with_reducible assumption) | (with_reducible refine Up.alloc ?_ _) | (with_reducible refine Up.drew ?_) | ((with_reducible refine Up.set ?_ ?_ _); rotate_left; focus (first | omega | (simp; done) | (simp; omega))) | (with_reducible refine Up.drewN ?_ _) | (with_reducible refine Up.call ?_ (by with_reducible assumption)))))) (Hb.out.up (by (repeat (first | (with_reducible exact Up.refl _) | (with_reducible assumption) | (with_reducible refine Up.alloc ?_ _) | (with_reducible refine Up.drew ?_) | ((with_reducible refine Up.set ?_ ?_ _); rotate_left; focus (first | omega | (simp; done) | (simp; omega))) | (with_reducible refine Up.drewN ?_ _) | (with_reducible refine Up.call ?_ (by with_reducible assumption))))))).mono ?_); rintro e w1 ⟨x1, hx1, rfl, hb1⟩ <;> (rw [Hrd.out] at hx1; subst hx1)) <;> (have hle := Up.le hb1; (try simp only [World.size_alloc, World.size_setCell, World.size_drew, World.heap_drewN] at hle); (try (have _ : w.heap.size < w1.heap.size := (by omega); (try (apply fk hb1 (w.heap.size); (focus (go_simp; rfl)); (focus (intro o; go_simp)); intro z; (try clear f_0); have f_0 := z; clear z)); (try (apply ck hb1 (w.heap.size) 0; (focus (go_simp; rfl)); intro z; (try clear c_0_0); have c_0_0 := z; clear z; (try (apply ck hb1 (w.heap.size) 1; (focus (go_simp; rfl)); intro z; (try clear c_0_1); have c_0_1 := z; clear z)))); (try (have _ : w.heap.size + 1 < w1.heap.size := (by omega); (try (apply fk hb1 (w.heap.size + 1); (focus (go_simp; rfl)); (focus (intro o; go_simp)); intro z; (try clear f_1); have f_1 := z; clear z)); (try (apply ck hb1 (w.heap.size + 1) 0; (focus (go_simp; rfl)); intro z; (try clear c_1_0); have c_1_0 := z; clear z; (try (apply ck hb1 (w.heap.size + 1) 1; (focus (go_simp; rfl)); intro z; (try clear c_1_1); have c_1_1 := z; clear z)))))))); clear hle; (try (apply old_keep (w0 := w) (w := w1); (focus ((repeat (first | (with_reducible exact Up.refl _) | (with_reducible assumption) | (with_reducible refine Up.alloc ?_ _) | (with_reducible refine Up.drew ?_) | ((with_reducible refine Up.set ?_ ?_ _); rotate_left; focus (first | omega | (simp; done) | (simp; omega))) | (with_reducible refine Up.drewN ?_ _) | (with_reducible refine Up.call ?_ (by with_reducible assumption)))))); intro y z; (try clear hUp); (try clear hOld); have hUp := y; have hOld := z; clear y z)))))
    have HU1 := hid (show Up w w1 by (repeat (first | (with_reducible exact Up.refl _) | (with_reducible assumption) | (with_reducible refine Up.alloc ?_ _) | (with_reducible refine Up.drew ?_) | ((with_reducible refine Up.set ?_ ?_ _); rotate_left; focus (first | omega | (simp; done) | (simp; omega))) | (with_reducible refine Up.drewN ?_ _) | (with_reducible refine Up.call ?_ (by with_reducible assumption)))))
    go_loopw [7, 21] (fun v i wr => ∃ (k : Nat) (m : Int), k ≤ s.next.length ∧ v = .int .i64 m ∧ i = .int .i64 k ∧ Hid (boundG b 0 s.next = boundG b m (s.next.drop k)) ∧ Hid (0 ≤ m ∧ m ≤ 1000000000) ∧ Up w1 wr) (fun _ i _ => s.next.length - (intOf i).toNat)
    case atStart => exact ⟨0, 0, by omega, rfl, rfl, rfl, ⟨by omega, by omega⟩, Up.refl _⟩
    case round =>
      obtain ⟨k, m, hk, rfl, rfl, H, Hmb, hU⟩ := hrel
      have HUw := hid (HU1.out.call hU)
      have gr := (bcell HUw.out).1
      have hle := HUw.out.le
      by_cases hlt : k < s.next.length
      · obtain ⟨b1, o1, rfl, lb, cc⟩ := (HY.out.next).at (by omega)
        obtain ⟨A2, c2, q1, q2, q3⟩ := cc k hlt
        have j1 := (gr _ _ lb).trans q1
        have _ : b1 < wr.heap.size := by omega
        have Hdn := hid (fdrop s.next k hlt)
        have Hq := hid (RdT.up q3 HUw.out)
        have Hlt := hid hlt
        have Hck := hid (fcheck_ok (firstBadF_at HS.out.forms (s.next[k]?.getD []) (by rw [List.getElem?_eq_getElem hlt]; exact List.getElem_mem hlt)))
        have hdk : decide ((k : Int) < (s.next.length : Int)) = true := by simp; omega
        have hk0 : (0 : Int) ≤ (k : Int) := by omega
        have hkm : (k : Int) < (s.next.length : Int) := by omega
        have hk9 : (k : Int) < 3 := by have := HS.out.few; omega
        generalize s.next[k]?.getD [] = f at *
        clear gr hlt cc q1 q2 q3
        cases hbo : boneG f b 0 b.length 0 with
        | error e0 =>
          have Hbo := hid hbo; clear hbo
          go_wp2_with (first
                        | ((go_at_call 29; refine (bone_any f _ _ b _ _ _ _ (Hq.out.up (by (repeat (first | (with_reducible exact Up.refl _) | (with_reducible assumption) | (with_reducible refine Up.alloc ?_ _) | (with_reducible refine Up.drew ?_) | ((with_reducible refine Up.set ?_ ?_ _); rotate_left; focus (first | omega | (simp; done) | (simp; omega))) | (with_reducible refine Up.drewN ?_ _) | (with_reducible refine Up.call ?_ (by with_reducible assumption)))))) (Hb.out.up (HUw.out.call (by (repeat (first | (with_reducible exact Up.refl _) | (with_reducible assumption) | (with_reducible refine Up.alloc ?_ _) | (with_reducible refine Up.drew ?_) | ((with_reducible refine Up.set ?_ ?_ _); rotate_left; focus (first | omega | (simp; done) | (simp; omega))) | (with_reducible refine Up.drewN ?_ _) | (with_reducible refine Up.call ?_ (by with_reducible assumption))))))) HB.out.few HB.out.spans Hck.out.2.2.2 (by have := Hck.out.2.2.1; omega)).mono ?_; rintro e w2 ⟨x2, hx2, rfl, hb2⟩); rw [Hbo.out] at hx2; subst hx2))
          go_ret2
          refine RetX.mk (.error e0 : Except Nat Int) (HUw.out.call (by (repeat (first | (with_reducible exact Up.refl _) | (with_reducible assumption) | (with_reducible refine Up.alloc ?_ _) | (with_reducible refine Up.drew ?_) | ((with_reducible refine Up.set ?_ ?_ _); rotate_left; focus (first | omega | (simp; done) | (simp; omega))) | (with_reducible refine Up.drewN ?_ _) | (with_reducible refine Up.call ?_ (by with_reducible assumption)))))) ?_ rfl
          rw [H.out, Hdn.out]; exact boundG_bad Hbo.out
        | ok n =>
          have Hn := hid (bone_M _ _ _ _ hbo)
          have Hbo := hid hbo; clear hbo
          go_wp2_with (first
                        | ((go_at_call 29; refine (bone_any f _ _ b _ _ _ _ (Hq.out.up (by (repeat (first | (with_reducible exact Up.refl _) | (with_reducible assumption) | (with_reducible refine Up.alloc ?_ _) | (with_reducible refine Up.drew ?_) | ((with_reducible refine Up.set ?_ ?_ _); rotate_left; focus (first | omega | (simp; done) | (simp; omega))) | (with_reducible refine Up.drewN ?_ _) | (with_reducible refine Up.call ?_ (by with_reducible assumption)))))) (Hb.out.up (HUw.out.call (by (repeat (first | (with_reducible exact Up.refl _) | (with_reducible assumption) | (with_reducible refine Up.alloc ?_ _) | (with_reducible refine Up.drew ?_) | ((with_reducible refine Up.set ?_ ?_ _); rotate_left; focus (first | omega | (simp; done) | (simp; omega))) | (with_reducible refine Up.drewN ?_ _) | (with_reducible refine Up.call ?_ (by with_reducible assumption))))))) HB.out.few HB.out.spans Hck.out.2.2.2 (by have := Hck.out.2.2.1; omega)).mono ?_; rintro e w2 ⟨x2, hx2, rfl, hb2⟩); rw [Hbo.out] at hx2; subst hx2; obtain ⟨hd2, hf2⟩ := bcell hb2))
          go_roundw
          case rel =>
            refine ⟨k + 1, max m n, by have := Hlt.out; omega, ?_, by go_num, ?_, ?_, ?_⟩
            · first
                | rfl
                | (congr 1; omega)
                | (congr 1; split <;> omega)
            · show _ = _
              rw [H.out, Hdn.out]; exact boundG_go Hbo.out
            · have := Hmb.out
              obtain ⟨n1, n2⟩ := Hn.out
              show _ ∧ _
              omega
            · (repeat (first | (with_reducible exact Up.refl _) | (with_reducible assumption) | (with_reducible refine Up.alloc ?_ _) | (with_reducible refine Up.drew ?_) | ((with_reducible refine Up.set ?_ ?_ _); rotate_left; focus (first | omega | (simp; done) | (simp; omega))) | (with_reducible refine Up.drewN ?_ _) | (with_reducible refine Up.call ?_ (by with_reducible assumption))))
          case measure => have := Hlt.out; simp [intOf]; omega
      · obtain rfl : k = s.next.length := by omega
        clear gr
        go_wp2
        go_ret2
        refine RetX.mk (.ok m : Except Nat Int) HUw.out ?_ rfl
        rw [H.out, List.drop_length]; rfl
set_option maxRecDepth 100000 in
set_option maxHeartbeats 4000000 in
theorem pull_any (A B C : Option Addr) (s : Sy) (b : List Sp) (c d e : Nat) (w : World) (hY : RY w A B s) (hb : RdS w C b) :
    Calls Try.prog 12 #[.agg #[.slice A s.next.length c, .slice B s.push.length d], .slice C b.length e] w (RetX boolR (pullF s b) w) := by
  have HY := hid hY; have Hb := hid hb; clear hY hb
  cases hbd : boundF s b with
  | error e0 =>
    have hr : pullF s b = .error e0 := by unfold pullF; rw [hbd]
    rw [hr]
    have Hbd := hid hbd; clear hbd hr
    go_enter Try.func12, Try.ntmps12
    go_wp2_with (first
                        | ((go_at_call 13; (with_reducible refine (bound_any _ _ _ s b _ _ _ _ (HY.out.up (by (repeat (first | (with_reducible exact Up.refl _) | (with_reducible assumption) | (with_reducible refine Up.alloc ?_ _) | (with_reducible refine Up.drew ?_) | ((with_reducible refine Up.set ?_ ?_ _); rotate_left; focus (first | omega | (simp; done) | (simp; omega))) | (with_reducible refine Up.drewN ?_ _) | (with_reducible refine Up.call ?_ (by with_reducible assumption)))))) (Hb.out.up (by (repeat (first | (with_reducible exact Up.refl _) | (with_reducible assumption) | (with_reducible refine Up.alloc ?_ _) | (with_reducible refine Up.drew ?_) | ((with_reducible refine Up.set ?_ ?_ _); rotate_left; focus (first | omega | (simp; done) | (simp; omega))) | (with_reducible refine Up.drewN ?_ _) | (with_reducible refine Up.call ?_ (by with_reducible assumption))))))).mono ?_); rintro e w1 ⟨x1, hx1, rfl, hb1⟩ <;> (rw [Hbd.out] at hx1; subst hx1)) <;> (have hle := Up.le hb1; (try simp only [World.size_alloc, World.size_setCell, World.size_drew, World.heap_drewN] at hle); (try (have _ : w.heap.size < w1.heap.size := (by omega); (try (apply fk hb1 (w.heap.size); (focus (go_simp; rfl)); (focus (intro o; go_simp)); intro z; (try clear f_0); have f_0 := z; clear z)); (try (apply ck hb1 (w.heap.size) 0; (focus (go_simp; rfl)); intro z; (try clear c_0_0); have c_0_0 := z; clear z; (try (apply ck hb1 (w.heap.size) 1; (focus (go_simp; rfl)); intro z; (try clear c_0_1); have c_0_1 := z; clear z)))); (try (have _ : w.heap.size + 1 < w1.heap.size := (by omega); (try (apply fk hb1 (w.heap.size + 1); (focus (go_simp; rfl)); (focus (intro o; go_simp)); intro z; (try clear f_1); have f_1 := z; clear z)); (try (apply ck hb1 (w.heap.size + 1) 0; (focus (go_simp; rfl)); intro z; (try clear c_1_0); have c_1_0 := z; clear z; (try (apply ck hb1 (w.heap.size + 1) 1; (focus (go_simp; rfl)); intro z; (try clear c_1_1); have c_1_1 := z; clear z)))))))); clear hle; (try (apply old_keep (w0 := w) (w := w1); (focus ((repeat (first | (with_reducible exact Up.refl _) | (with_reducible assumption) | (with_reducible refine Up.alloc ?_ _) | (with_reducible refine Up.drew ?_) | ((with_reducible refine Up.set ?_ ?_ _); rotate_left; focus (first | omega | (simp; done) | (simp; omega))) | (with_reducible refine Up.drewN ?_ _) | (with_reducible refine Up.call ?_ (by with_reducible assumption)))))); intro y z; (try clear hUp); (try clear hOld); have hUp := y; have hOld := z; clear y z)))))
    go_ret2
    refine RetX.mk (.error e0 : Except Nat Bool) ?_ rfl rfl
    (repeat (first | (with_reducible exact Up.refl _) | (with_reducible assumption) | (with_reducible refine Up.alloc ?_ _) | (with_reducible refine Up.drew ?_) | ((with_reducible refine Up.set ?_ ?_ _); rotate_left; focus (first | omega | (simp; done) | (simp; omega))) | (with_reducible refine Up.drewN ?_ _) | (with_reducible refine Up.call ?_ (by with_reducible assumption))))
  | ok n =>
    cases his : isF s b with
    | error e0 =>
      have hr : pullF s b = .error e0 := by unfold pullF; rw [hbd]; dsimp only; rw [his]
      rw [hr]
      have Hbd := hid hbd; have His := hid his; clear hbd hr his
      go_enter Try.func12, Try.ntmps12
      go_wp2_with (first
                        | ((go_at_call 13; (with_reducible refine (bound_any _ _ _ s b _ _ _ _ (HY.out.up (by (repeat (first | (with_reducible exact Up.refl _) | (with_reducible assumption) | (with_reducible refine Up.alloc ?_ _) | (with_reducible refine Up.drew ?_) | ((with_reducible refine Up.set ?_ ?_ _); rotate_left; focus (first | omega | (simp; done) | (simp; omega))) | (with_reducible refine Up.drewN ?_ _) | (with_reducible refine Up.call ?_ (by with_reducible assumption)))))) (Hb.out.up (by (repeat (first | (with_reducible exact Up.refl _) | (with_reducible assumption) | (with_reducible refine Up.alloc ?_ _) | (with_reducible refine Up.drew ?_) | ((with_reducible refine Up.set ?_ ?_ _); rotate_left; focus (first | omega | (simp; done) | (simp; omega))) | (with_reducible refine Up.drewN ?_ _) | (with_reducible refine Up.call ?_ (by with_reducible assumption))))))).mono ?_); rintro e w1 ⟨x1, hx1, rfl, hb1⟩ <;> (rw [Hbd.out] at hx1; subst hx1)) <;> (have hle := Up.le hb1; (try simp only [World.size_alloc, World.size_setCell, World.size_drew, World.heap_drewN] at hle); (try (have _ : w.heap.size < w1.heap.size := (by omega); (try (apply fk hb1 (w.heap.size); (focus (go_simp; rfl)); (focus (intro o; go_simp)); intro z; (try clear f_0); have f_0 := z; clear z)); (try (apply ck hb1 (w.heap.size) 0; (focus (go_simp; rfl)); intro z; (try clear c_0_0); have c_0_0 := z; clear z; (try (apply ck hb1 (w.heap.size) 1; (focus (go_simp; rfl)); intro z; (try clear c_0_1); have c_0_1 := z; clear z)))); (try (have _ : w.heap.size + 1 < w1.heap.size := (by omega); (try (apply fk hb1 (w.heap.size + 1); (focus (go_simp; rfl)); (focus (intro o; go_simp)); intro z; (try clear f_1); have f_1 := z; clear z)); (try (apply ck hb1 (w.heap.size + 1) 0; (focus (go_simp; rfl)); intro z; (try clear c_1_0); have c_1_0 := z; clear z; (try (apply ck hb1 (w.heap.size + 1) 1; (focus (go_simp; rfl)); intro z; (try clear c_1_1); have c_1_1 := z; clear z)))))))); clear hle; (try (apply old_keep (w0 := w) (w := w1); (focus ((repeat (first | (with_reducible exact Up.refl _) | (with_reducible assumption) | (with_reducible refine Up.alloc ?_ _) | (with_reducible refine Up.drew ?_) | ((with_reducible refine Up.set ?_ ?_ _); rotate_left; focus (first | omega | (simp; done) | (simp; omega))) | (with_reducible refine Up.drewN ?_ _) | (with_reducible refine Up.call ?_ (by with_reducible assumption)))))); intro y z; (try clear hUp); (try clear hOld); have hUp := y; have hOld := z; clear y z))))
                        | ((go_at_call 14; (with_reducible refine (his_any _ _ _ s b _ _ _ _ (HY.out.up (by (repeat (first | (with_reducible exact Up.refl _) | (with_reducible assumption) | (with_reducible refine Up.alloc ?_ _) | (with_reducible refine Up.drew ?_) | ((with_reducible refine Up.set ?_ ?_ _); rotate_left; focus (first | omega | (simp; done) | (simp; omega))) | (with_reducible refine Up.drewN ?_ _) | (with_reducible refine Up.call ?_ (by with_reducible assumption)))))) (Hb.out.up (by (repeat (first | (with_reducible exact Up.refl _) | (with_reducible assumption) | (with_reducible refine Up.alloc ?_ _) | (with_reducible refine Up.drew ?_) | ((with_reducible refine Up.set ?_ ?_ _); rotate_left; focus (first | omega | (simp; done) | (simp; omega))) | (with_reducible refine Up.drewN ?_ _) | (with_reducible refine Up.call ?_ (by with_reducible assumption))))))).mono ?_); rintro e w2 ⟨x2, hx2, rfl, hb2⟩ <;> (rw [His.out] at hx2; subst hx2)) <;> (have hle := Up.le hb2; (try simp only [World.size_alloc, World.size_setCell, World.size_drew, World.heap_drewN] at hle); (try (have _ : w.heap.size < w2.heap.size := (by omega); (try (apply fk hb2 (w.heap.size); (focus (go_simp; rfl)); (focus (intro o; go_simp)); intro z; (try clear f_0); have f_0 := z; clear z)); (try (apply ck hb2 (w.heap.size) 0; (focus (go_simp; rfl)); intro z; (try clear c_0_0); have c_0_0 := z; clear z; (try (apply ck hb2 (w.heap.size) 1; (focus (go_simp; rfl)); intro z; (try clear c_0_1); have c_0_1 := z; clear z)))); (try (have _ : w.heap.size + 1 < w2.heap.size := (by omega); (try (apply fk hb2 (w.heap.size + 1); (focus (go_simp; rfl)); (focus (intro o; go_simp)); intro z; (try clear f_1); have f_1 := z; clear z)); (try (apply ck hb2 (w.heap.size + 1) 0; (focus (go_simp; rfl)); intro z; (try clear c_1_0); have c_1_0 := z; clear z; (try (apply ck hb2 (w.heap.size + 1) 1; (focus (go_simp; rfl)); intro z; (try clear c_1_1); have c_1_1 := z; clear z)))))))); (try (have _ : w1.heap.size < w2.heap.size := (by omega); (try (apply fk hb2 (w1.heap.size); (focus (go_simp; rfl)); (focus (intro o; go_simp)); intro z; (try clear f1_0); have f1_0 := z; clear z)); (try (apply ck hb2 (w1.heap.size) 0; (focus (go_simp; rfl)); intro z; (try clear c1_0_0); have c1_0_0 := z; clear z; (try (apply ck hb2 (w1.heap.size) 1; (focus (go_simp; rfl)); intro z; (try clear c1_0_1); have c1_0_1 := z; clear z)))); (try (have _ : w1.heap.size + 1 < w2.heap.size := (by omega); (try (apply fk hb2 (w1.heap.size + 1); (focus (go_simp; rfl)); (focus (intro o; go_simp)); intro z; (try clear f1_1); have f1_1 := z; clear z)); (try (apply ck hb2 (w1.heap.size + 1) 0; (focus (go_simp; rfl)); intro z; (try clear c1_1_0); have c1_1_0 := z; clear z; (try (apply ck hb2 (w1.heap.size + 1) 1; (focus (go_simp; rfl)); intro z; (try clear c1_1_1); have c1_1_1 := z; clear z)))))))); clear hle; (try (apply old_keep (w0 := w) (w := w2); (focus ((repeat (first | (with_reducible exact Up.refl _) | (with_reducible assumption) | (with_reducible refine Up.alloc ?_ _) | (with_reducible refine Up.drew ?_) | ((with_reducible refine Up.set ?_ ?_ _); rotate_left; focus (first | omega | (simp; done) | (simp; omega))) | (with_reducible refine Up.drewN ?_ _) | (with_reducible refine Up.call ?_ (by with_reducible assumption)))))); intro y z; (try clear hUp); (try clear hOld); have hUp := y; have hOld := z; clear y z)))))
      go_ret2
      refine RetX.mk (.error e0 : Except Nat Bool) ?_ rfl rfl
      (repeat (first | (with_reducible exact Up.refl _) | (with_reducible assumption) | (with_reducible refine Up.alloc ?_ _) | (with_reducible refine Up.drew ?_) | ((with_reducible refine Up.set ?_ ?_ _); rotate_left; focus (first | omega | (simp; done) | (simp; omega))) | (with_reducible refine Up.drewN ?_ _) | (with_reducible refine Up.call ?_ (by with_reducible assumption))))
    | ok v =>
      have hr : pullF s b = .ok (v && decide (n < 1000)) := by unfold pullF; rw [hbd]; dsimp only; rw [his]
      rw [hr]
      have Hbd := hid hbd; have His := hid his; clear hbd hr his
      cases v
      all_goals
        go_enter Try.func12, Try.ntmps12
        go_wp2_with (first
                        | ((go_at_call 13; (with_reducible refine (bound_any _ _ _ s b _ _ _ _ (HY.out.up (by (repeat (first | (with_reducible exact Up.refl _) | (with_reducible assumption) | (with_reducible refine Up.alloc ?_ _) | (with_reducible refine Up.drew ?_) | ((with_reducible refine Up.set ?_ ?_ _); rotate_left; focus (first | omega | (simp; done) | (simp; omega))) | (with_reducible refine Up.drewN ?_ _) | (with_reducible refine Up.call ?_ (by with_reducible assumption)))))) (Hb.out.up (by (repeat (first | (with_reducible exact Up.refl _) | (with_reducible assumption) | (with_reducible refine Up.alloc ?_ _) | (with_reducible refine Up.drew ?_) | ((with_reducible refine Up.set ?_ ?_ _); rotate_left; focus (first | omega | (simp; done) | (simp; omega))) | (with_reducible refine Up.drewN ?_ _) | (with_reducible refine Up.call ?_ (by with_reducible assumption))))))).mono ?_); rintro e w1 ⟨x1, hx1, rfl, hb1⟩ <;> (rw [Hbd.out] at hx1; subst hx1)) <;> (have hle := Up.le hb1; (try simp only [World.size_alloc, World.size_setCell, World.size_drew, World.heap_drewN] at hle); (try (have _ : w.heap.size < w1.heap.size := (by omega); (try (apply fk hb1 (w.heap.size); (focus (go_simp; rfl)); (focus (intro o; go_simp)); intro z; (try clear f_0); have f_0 := z; clear z)); (try (apply ck hb1 (w.heap.size) 0; (focus (go_simp; rfl)); intro z; (try clear c_0_0); have c_0_0 := z; clear z; (try (apply ck hb1 (w.heap.size) 1; (focus (go_simp; rfl)); intro z; (try clear c_0_1); have c_0_1 := z; clear z)))); (try (have _ : w.heap.size + 1 < w1.heap.size := (by omega); (try (apply fk hb1 (w.heap.size + 1); (focus (go_simp; rfl)); (focus (intro o; go_simp)); intro z; (try clear f_1); have f_1 := z; clear z)); (try (apply ck hb1 (w.heap.size + 1) 0; (focus (go_simp; rfl)); intro z; (try clear c_1_0); have c_1_0 := z; clear z; (try (apply ck hb1 (w.heap.size + 1) 1; (focus (go_simp; rfl)); intro z; (try clear c_1_1); have c_1_1 := z; clear z)))))))); clear hle; (try (apply old_keep (w0 := w) (w := w1); (focus ((repeat (first | (with_reducible exact Up.refl _) | (with_reducible assumption) | (with_reducible refine Up.alloc ?_ _) | (with_reducible refine Up.drew ?_) | ((with_reducible refine Up.set ?_ ?_ _); rotate_left; focus (first | omega | (simp; done) | (simp; omega))) | (with_reducible refine Up.drewN ?_ _) | (with_reducible refine Up.call ?_ (by with_reducible assumption)))))); intro y z; (try clear hUp); (try clear hOld); have hUp := y; have hOld := z; clear y z))))
                        | ((go_at_call 14; (with_reducible refine (his_any _ _ _ s b _ _ _ _ (HY.out.up (by (repeat (first | (with_reducible exact Up.refl _) | (with_reducible assumption) | (with_reducible refine Up.alloc ?_ _) | (with_reducible refine Up.drew ?_) | ((with_reducible refine Up.set ?_ ?_ _); rotate_left; focus (first | omega | (simp; done) | (simp; omega))) | (with_reducible refine Up.drewN ?_ _) | (with_reducible refine Up.call ?_ (by with_reducible assumption)))))) (Hb.out.up (by (repeat (first | (with_reducible exact Up.refl _) | (with_reducible assumption) | (with_reducible refine Up.alloc ?_ _) | (with_reducible refine Up.drew ?_) | ((with_reducible refine Up.set ?_ ?_ _); rotate_left; focus (first | omega | (simp; done) | (simp; omega))) | (with_reducible refine Up.drewN ?_ _) | (with_reducible refine Up.call ?_ (by with_reducible assumption))))))).mono ?_); rintro e w2 ⟨x2, hx2, rfl, hb2⟩ <;> (rw [His.out] at hx2; subst hx2)) <;> (have hle := Up.le hb2; (try simp only [World.size_alloc, World.size_setCell, World.size_drew, World.heap_drewN] at hle); (try (have _ : w.heap.size < w2.heap.size := (by omega); (try (apply fk hb2 (w.heap.size); (focus (go_simp; rfl)); (focus (intro o; go_simp)); intro z; (try clear f_0); have f_0 := z; clear z)); (try (apply ck hb2 (w.heap.size) 0; (focus (go_simp; rfl)); intro z; (try clear c_0_0); have c_0_0 := z; clear z; (try (apply ck hb2 (w.heap.size) 1; (focus (go_simp; rfl)); intro z; (try clear c_0_1); have c_0_1 := z; clear z)))); (try (have _ : w.heap.size + 1 < w2.heap.size := (by omega); (try (apply fk hb2 (w.heap.size + 1); (focus (go_simp; rfl)); (focus (intro o; go_simp)); intro z; (try clear f_1); have f_1 := z; clear z)); (try (apply ck hb2 (w.heap.size + 1) 0; (focus (go_simp; rfl)); intro z; (try clear c_1_0); have c_1_0 := z; clear z; (try (apply ck hb2 (w.heap.size + 1) 1; (focus (go_simp; rfl)); intro z; (try clear c_1_1); have c_1_1 := z; clear z)))))))); (try (have _ : w1.heap.size < w2.heap.size := (by omega); (try (apply fk hb2 (w1.heap.size); (focus (go_simp; rfl)); (focus (intro o; go_simp)); intro z; (try clear f1_0); have f1_0 := z; clear z)); (try (apply ck hb2 (w1.heap.size) 0; (focus (go_simp; rfl)); intro z; (try clear c1_0_0); have c1_0_0 := z; clear z; (try (apply ck hb2 (w1.heap.size) 1; (focus (go_simp; rfl)); intro z; (try clear c1_0_1); have c1_0_1 := z; clear z)))); (try (have _ : w1.heap.size + 1 < w2.heap.size := (by omega); (try (apply fk hb2 (w1.heap.size + 1); (focus (go_simp; rfl)); (focus (intro o; go_simp)); intro z; (try clear f1_1); have f1_1 := z; clear z)); (try (apply ck hb2 (w1.heap.size + 1) 0; (focus (go_simp; rfl)); intro z; (try clear c1_1_0); have c1_1_0 := z; clear z; (try (apply ck hb2 (w1.heap.size + 1) 1; (focus (go_simp; rfl)); intro z; (try clear c1_1_1); have c1_1_1 := z; clear z)))))))); clear hle; (try (apply old_keep (w0 := w) (w := w2); (focus ((repeat (first | (with_reducible exact Up.refl _) | (with_reducible assumption) | (with_reducible refine Up.alloc ?_ _) | (with_reducible refine Up.drew ?_) | ((with_reducible refine Up.set ?_ ?_ _); rotate_left; focus (first | omega | (simp; done) | (simp; omega))) | (with_reducible refine Up.drewN ?_ _) | (with_reducible refine Up.call ?_ (by with_reducible assumption)))))); intro y z; (try clear hUp); (try clear hOld); have hUp := y; have hOld := z; clear y z)))))
        all_goals
          go_ret2
          refine RetX.mk (.ok _ : Except Nat Bool) ?_ rfl ?_
          · (repeat (first | (with_reducible exact Up.refl _) | (with_reducible assumption) | (with_reducible refine Up.alloc ?_ _) | (with_reducible refine Up.drew ?_) | ((with_reducible refine Up.set ?_ ?_ _); rotate_left; focus (first | omega | (simp; done) | (simp; omega))) | (with_reducible refine Up.drewN ?_ _) | (with_reducible refine Up.call ?_ (by with_reducible assumption))))
          · first
              | rfl
              | (simp [boolR, *])
end Go.Proofs.Ytknkpjfoaijaoaa
