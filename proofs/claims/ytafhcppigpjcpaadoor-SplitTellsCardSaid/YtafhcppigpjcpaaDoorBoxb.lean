/- The walks of package box that only read: In, Within, Has. -/
import Derived.Test.YtafhcppigpjcpaaDoorBox
import Derived.Test.YtafhcppigpjcpaaDoorArgs
set_option linter.unusedVariables false
set_option linter.unusedSimpArgs false
namespace Go.Proofs.YtafhcppigpjcpaaDoor
open Go.RowKit

theorem inF_no {s t : Sp} {a b : List Sp} (h : s.lo < t.lo ∨ t.hi < s.hi) : inF (s :: a) (t :: b) = false := by unfold inF; rw [if_pos h]
theorem inF_yes {s t : Sp} {a b : List Sp} (h : ¬ (s.lo < t.lo ∨ t.hi < s.hi)) : inF (s :: a) (t :: b) = inF a b := by
  conv => lhs; unfold inF
  rw [if_neg h]
set_option maxHeartbeats 1000000 in
theorem in_any (A B : Option Addr) (a b : List Sp) (c d : Nat) (w : World) (ha : RdS w A a) (hb : RdS w B b) (hl : a.length = b.length) (hm : a.length ≤ 9223372036854775807) :
    Calls Tryd.prog 97 #[.slice A a.length c, .slice B b.length d] w (RetX boolV (inF a b) w) := by
  have Ha := hid ha; have Hb := hid hb; have Hm := hid hm; clear ha hb hm
  have hl1 : a.length ≤ b.length := by omega
  have hl2 : b.length ≤ a.length := by omega
  clear hl
  go_enter Tryd.func97, Tryd.ntmps97
  go_wp2
  go_loopw [9] (fun i wr => ∃ k : Nat, k ≤ a.length ∧ i = .int .i64 k ∧ Hid (inF a b = inF (a.drop k) (b.drop k)) ∧ Up w wr) (fun i _ => a.length - (intOf i).toNat)
  case atStart =>
    refine ⟨0, by omega, rfl, rfl, ?_⟩
    (repeat (first | (with_reducible exact Up.refl _) | (with_reducible assumption) | (with_reducible refine Up.alloc ?_ _) | (with_reducible refine Up.drew ?_) | ((with_reducible refine Up.set ?_ ?_ _); rotate_left; focus (first | omega | (simp; done) | (simp; omega))) | (with_reducible refine Up.drewN ?_ _) | (with_reducible refine Up.call ?_ (by with_reducible assumption))))
  case round =>
    obtain ⟨k, hk, rfl, H, hU⟩ := hrel
    have gr := (bcell hU).1
    by_cases hlt : k < a.length
    · obtain ⟨b1, o1, rfl, l1, c1⟩ := (Ha.out).at (by omega)
      obtain ⟨b2, o2, rfl, l2, c2⟩ := (Hb.out).at (by omega)
      obtain ⟨k1, k2⟩ := c1 k hlt
      obtain ⟨k3, k4⟩ := c2 k (by omega)
      have Hda := hid (sdrop a k hlt)
      have Hdb := hid (sdrop b k (by omega))
      generalize a[k]?.getD ⟨0, 0⟩ = s at *
      generalize b[k]?.getD ⟨0, 0⟩ = t at *
      clear c1 c2
      have hle := hU.le
      have _ : b1 < wr.heap.size := by omega
      have _ : b2 < wr.heap.size := by omega
      have hdk : decide ((k : Int) < (a.length : Int)) = true := by simp; omega
      have hkb : ((k : Int) < (b.length : Int)) := by omega
      have hka : (k : Int) + 1 ≤ 9223372036854775807 := by have := Hm.out; omega
      have hk0 : (0 : Int) ≤ (k : Int) := by omega
      by_cases h1 : s.lo < t.lo
      · have hd1 : decide (s.lo < t.lo) = true := by simpa using h1
        go_wp2_with fail
        go_quiet (fail)
        go_wp2
        go_ret
        refine RetX.mk false ?_ ?_ rfl
        · (repeat (first | (with_reducible exact Up.refl _) | (with_reducible assumption) | (with_reducible refine Up.alloc ?_ _) | (with_reducible refine Up.drew ?_) | ((with_reducible refine Up.set ?_ ?_ _); rotate_left; focus (first | omega | (simp; done) | (simp; omega))) | (with_reducible refine Up.drewN ?_ _) | (with_reducible refine Up.call ?_ (by with_reducible assumption))))
        · rw [H.out, Hda.out, Hdb.out]; exact inF_no (.inl h1)
      · have hd1 : decide (s.lo < t.lo) = false := by simpa using h1
        by_cases h2 : t.hi < s.hi
        · have hd2 : decide (t.hi < s.hi) = true := by simpa using h2
          go_wp2_with fail
          go_quiet (fail)
          go_wp2
          go_ret
          refine RetX.mk false ?_ ?_ rfl
          · (repeat (first | (with_reducible exact Up.refl _) | (with_reducible assumption) | (with_reducible refine Up.alloc ?_ _) | (with_reducible refine Up.drew ?_) | ((with_reducible refine Up.set ?_ ?_ _); rotate_left; focus (first | omega | (simp; done) | (simp; omega))) | (with_reducible refine Up.drewN ?_ _) | (with_reducible refine Up.call ?_ (by with_reducible assumption))))
          · rw [H.out, Hda.out, Hdb.out]; exact inF_no (.inr h2)
        · have hd2 : decide (t.hi < s.hi) = false := by simpa using h2
          go_wp2_with fail
          go_quiet (fail)
          go_wp2
          go_roundw
          case rel =>
            refine ⟨k + 1, by omega, by go_num, ?_, ?_⟩
            · show _ = _
              rw [H.out, Hda.out, Hdb.out]; exact inF_yes (by omega)
            · (repeat (first | (with_reducible exact Up.refl _) | (with_reducible assumption) | (with_reducible refine Up.alloc ?_ _) | (with_reducible refine Up.drew ?_) | ((with_reducible refine Up.set ?_ ?_ _); rotate_left; focus (first | omega | (simp; done) | (simp; omega))) | (with_reducible refine Up.drewN ?_ _) | (with_reducible refine Up.call ?_ (by with_reducible assumption))))
          case measure => simp [intOf]; omega
    · obtain rfl : k = a.length := by omega
      go_wp2
      go_ret
      refine RetX.mk true hU ?_ rfl
      rw [H.out, List.drop_length]
      rfl
theorem btwo_none {a b : List Sp} (h : btwoF a b = none) : bcheckF a = none ∧ bcheckF b = none ∧ a.length = b.length := by
  unfold btwoF at h
  split at h
  · cases h
  · split at h
    · cases h
    · split at h
      · exact ⟨by assumption, by assumption, by assumption⟩
      · cases h
theorem firstBad_all {l : List Sp} : firstBad l = none → ∀ s ∈ l, Rt s := by
  induction l with
  | nil => intro _ s hs; cases hs
  | cons t l ih =>
    intro h s hs
    unfold firstBad at h
    split at h
    · cases h
    · rename_i ht
      rcases List.mem_cons.1 hs with e | e
      · rw [e]; exact checkF_none.1 ht
      · exact ih h s e
theorem bcheck_none {l : List Sp} (h : bcheckF l = none) : 0 < l.length ∧ l.length ≤ 3 ∧ ∀ s ∈ l, Rt s := by
  unfold bcheckF at h
  split at h
  · cases h
  · split at h
    · cases h
    · exact ⟨by omega, by omega, firstBad_all h⟩
theorem within_any (A B : Option Addr) (a b : List Sp) (c d : Nat) (w : World) (ha : RdS w A a) (hb : RdS w B b) :
    Calls Tryd.prog 33 #[.slice A a.length c, .slice B b.length d] w (RetX boolR (withinF a b) w) := by
  have Ha := hid ha; have Hb := hid hb; clear ha hb
  go_enter Tryd.func33, Tryd.ntmps33
  go_wp2_with (first
    | ((go_at_call 96; (with_reducible refine (btwo_any _ _ _ _ _ _ _ (Ha.out.up (by (repeat (first | (with_reducible exact Up.refl _) | (with_reducible assumption) | (with_reducible refine Up.alloc ?_ _) | (with_reducible refine Up.drew ?_) | ((with_reducible refine Up.set ?_ ?_ _); rotate_left; focus (first | omega | (simp; done) | (simp; omega))) | (with_reducible refine Up.drewN ?_ _) | (with_reducible refine Up.call ?_ (by with_reducible assumption)))))) (Hb.out.up (by (repeat (first | (with_reducible exact Up.refl _) | (with_reducible assumption) | (with_reducible refine Up.alloc ?_ _) | (with_reducible refine Up.drew ?_) | ((with_reducible refine Up.set ?_ ?_ _); rotate_left; focus (first | omega | (simp; done) | (simp; omega))) | (with_reducible refine Up.drewN ?_ _) | (with_reducible refine Up.call ?_ (by with_reducible assumption))))))).mono ?_); rintro e w1 ⟨(_|n1), hx1, rfl, hb1⟩) <;> (have hle := Up.le hb1; (try simp only [World.size_alloc, World.size_setCell, World.size_drew, World.heap_drewN] at hle); (try (have _ : w.heap.size < w1.heap.size := (by omega); (try (apply fk hb1 (w.heap.size); (focus (go_simp; rfl)); (focus (intro o; go_simp)); intro z; (try clear f_0); have f_0 := z; clear z)); (try (apply ck hb1 (w.heap.size) 0; (focus (go_simp; rfl)); intro z; (try clear c_0_0); have c_0_0 := z; clear z; (try (apply ck hb1 (w.heap.size) 1; (focus (go_simp; rfl)); intro z; (try clear c_0_1); have c_0_1 := z; clear z)))); (try (have _ : w.heap.size + 1 < w1.heap.size := (by omega); (try (apply fk hb1 (w.heap.size + 1); (focus (go_simp; rfl)); (focus (intro o; go_simp)); intro z; (try clear f_1); have f_1 := z; clear z)); (try (apply ck hb1 (w.heap.size + 1) 0; (focus (go_simp; rfl)); intro z; (try clear c_1_0); have c_1_0 := z; clear z; (try (apply ck hb1 (w.heap.size + 1) 1; (focus (go_simp; rfl)); intro z; (try clear c_1_1); have c_1_1 := z; clear z)))); (try (have _ : w.heap.size + 1 + 1 < w1.heap.size := (by omega); (try (apply fk hb1 (w.heap.size + 1 + 1); (focus (go_simp; rfl)); (focus (intro o; go_simp)); intro z; (try clear f_2); have f_2 := z; clear z)); (try (apply ck hb1 (w.heap.size + 1 + 1) 0; (focus (go_simp; rfl)); intro z; (try clear c_2_0); have c_2_0 := z; clear z; (try (apply ck hb1 (w.heap.size + 1 + 1) 1; (focus (go_simp; rfl)); intro z; (try clear c_2_1); have c_2_1 := z; clear z)))); (try (have _ : w.heap.size + 1 + 1 + 1 < w1.heap.size := (by omega); (try (apply fk hb1 (w.heap.size + 1 + 1 + 1); (focus (go_simp; rfl)); (focus (intro o; go_simp)); intro z; (try clear f_3); have f_3 := z; clear z)); (try (apply ck hb1 (w.heap.size + 1 + 1 + 1) 0; (focus (go_simp; rfl)); intro z; (try clear c_3_0); have c_3_0 := z; clear z; (try (apply ck hb1 (w.heap.size + 1 + 1 + 1) 1; (focus (go_simp; rfl)); intro z; (try clear c_3_1); have c_3_1 := z; clear z)))); (try (have _ : w.heap.size + 1 + 1 + 1 + 1 < w1.heap.size := (by omega); (try (apply fk hb1 (w.heap.size + 1 + 1 + 1 + 1); (focus (go_simp; rfl)); (focus (intro o; go_simp)); intro z; (try clear f_4); have f_4 := z; clear z)); (try (apply ck hb1 (w.heap.size + 1 + 1 + 1 + 1) 0; (focus (go_simp; rfl)); intro z; (try clear c_4_0); have c_4_0 := z; clear z; (try (apply ck hb1 (w.heap.size + 1 + 1 + 1 + 1) 1; (focus (go_simp; rfl)); intro z; (try clear c_4_1); have c_4_1 := z; clear z)))))))))))))); clear hle; (try (apply old_keep (w0 := w) (w := w1); (focus ((repeat (first | (with_reducible exact Up.refl _) | (with_reducible assumption) | (with_reducible refine Up.alloc ?_ _) | (with_reducible refine Up.drew ?_) | ((with_reducible refine Up.set ?_ ?_ _); rotate_left; focus (first | omega | (simp; done) | (simp; omega))) | (with_reducible refine Up.drewN ?_ _) | (with_reducible refine Up.call ?_ (by with_reducible assumption)))))); intro y z; (try clear hUp); (try clear hOld); have hUp := y; have hOld := z; clear y z))))
    | ((go_at_call 97; (with_reducible refine (in_any _ _ _ _ _ _ _ (Ha.out.up (by (repeat (first | (with_reducible exact Up.refl _) | (with_reducible assumption) | (with_reducible refine Up.alloc ?_ _) | (with_reducible refine Up.drew ?_) | ((with_reducible refine Up.set ?_ ?_ _); rotate_left; focus (first | omega | (simp; done) | (simp; omega))) | (with_reducible refine Up.drewN ?_ _) | (with_reducible refine Up.call ?_ (by with_reducible assumption)))))) (Hb.out.up (by (repeat (first | (with_reducible exact Up.refl _) | (with_reducible assumption) | (with_reducible refine Up.alloc ?_ _) | (with_reducible refine Up.drew ?_) | ((with_reducible refine Up.set ?_ ?_ _); rotate_left; focus (first | omega | (simp; done) | (simp; omega))) | (with_reducible refine Up.drewN ?_ _) | (with_reducible refine Up.call ?_ (by with_reducible assumption)))))) (btwo_none hx1).2.2 (by have := (bcheck_none (btwo_none hx1).1).2.1; omega)).mono ?_); rintro e w2 ⟨x2, hx2, rfl, hb2⟩) <;> (have hle := Up.le hb2; (try simp only [World.size_alloc, World.size_setCell, World.size_drew, World.heap_drewN] at hle); (try (have _ : w.heap.size < w2.heap.size := (by omega); (try (apply fk hb2 (w.heap.size); (focus (go_simp; rfl)); (focus (intro o; go_simp)); intro z; (try clear f_0); have f_0 := z; clear z)); (try (apply ck hb2 (w.heap.size) 0; (focus (go_simp; rfl)); intro z; (try clear c_0_0); have c_0_0 := z; clear z; (try (apply ck hb2 (w.heap.size) 1; (focus (go_simp; rfl)); intro z; (try clear c_0_1); have c_0_1 := z; clear z)))); (try (have _ : w.heap.size + 1 < w2.heap.size := (by omega); (try (apply fk hb2 (w.heap.size + 1); (focus (go_simp; rfl)); (focus (intro o; go_simp)); intro z; (try clear f_1); have f_1 := z; clear z)); (try (apply ck hb2 (w.heap.size + 1) 0; (focus (go_simp; rfl)); intro z; (try clear c_1_0); have c_1_0 := z; clear z; (try (apply ck hb2 (w.heap.size + 1) 1; (focus (go_simp; rfl)); intro z; (try clear c_1_1); have c_1_1 := z; clear z)))); (try (have _ : w.heap.size + 1 + 1 < w2.heap.size := (by omega); (try (apply fk hb2 (w.heap.size + 1 + 1); (focus (go_simp; rfl)); (focus (intro o; go_simp)); intro z; (try clear f_2); have f_2 := z; clear z)); (try (apply ck hb2 (w.heap.size + 1 + 1) 0; (focus (go_simp; rfl)); intro z; (try clear c_2_0); have c_2_0 := z; clear z; (try (apply ck hb2 (w.heap.size + 1 + 1) 1; (focus (go_simp; rfl)); intro z; (try clear c_2_1); have c_2_1 := z; clear z)))); (try (have _ : w.heap.size + 1 + 1 + 1 < w2.heap.size := (by omega); (try (apply fk hb2 (w.heap.size + 1 + 1 + 1); (focus (go_simp; rfl)); (focus (intro o; go_simp)); intro z; (try clear f_3); have f_3 := z; clear z)); (try (apply ck hb2 (w.heap.size + 1 + 1 + 1) 0; (focus (go_simp; rfl)); intro z; (try clear c_3_0); have c_3_0 := z; clear z; (try (apply ck hb2 (w.heap.size + 1 + 1 + 1) 1; (focus (go_simp; rfl)); intro z; (try clear c_3_1); have c_3_1 := z; clear z)))); (try (have _ : w.heap.size + 1 + 1 + 1 + 1 < w2.heap.size := (by omega); (try (apply fk hb2 (w.heap.size + 1 + 1 + 1 + 1); (focus (go_simp; rfl)); (focus (intro o; go_simp)); intro z; (try clear f_4); have f_4 := z; clear z)); (try (apply ck hb2 (w.heap.size + 1 + 1 + 1 + 1) 0; (focus (go_simp; rfl)); intro z; (try clear c_4_0); have c_4_0 := z; clear z; (try (apply ck hb2 (w.heap.size + 1 + 1 + 1 + 1) 1; (focus (go_simp; rfl)); intro z; (try clear c_4_1); have c_4_1 := z; clear z)))))))))))))); (try (have _ : w1.heap.size < w2.heap.size := (by omega); (try (apply fk hb2 (w1.heap.size); (focus (go_simp; rfl)); (focus (intro o; go_simp)); intro z; (try clear f1_0); have f1_0 := z; clear z)); (try (apply ck hb2 (w1.heap.size) 0; (focus (go_simp; rfl)); intro z; (try clear c1_0_0); have c1_0_0 := z; clear z; (try (apply ck hb2 (w1.heap.size) 1; (focus (go_simp; rfl)); intro z; (try clear c1_0_1); have c1_0_1 := z; clear z)))); (try (have _ : w1.heap.size + 1 < w2.heap.size := (by omega); (try (apply fk hb2 (w1.heap.size + 1); (focus (go_simp; rfl)); (focus (intro o; go_simp)); intro z; (try clear f1_1); have f1_1 := z; clear z)); (try (apply ck hb2 (w1.heap.size + 1) 0; (focus (go_simp; rfl)); intro z; (try clear c1_1_0); have c1_1_0 := z; clear z; (try (apply ck hb2 (w1.heap.size + 1) 1; (focus (go_simp; rfl)); intro z; (try clear c1_1_1); have c1_1_1 := z; clear z)))))))); clear hle; (try (apply old_keep (w0 := w) (w := w2); (focus ((repeat (first | (with_reducible exact Up.refl _) | (with_reducible assumption) | (with_reducible refine Up.alloc ?_ _) | (with_reducible refine Up.drew ?_) | ((with_reducible refine Up.set ?_ ?_ _); rotate_left; focus (first | omega | (simp; done) | (simp; omega))) | (with_reducible refine Up.drewN ?_ _) | (with_reducible refine Up.call ?_ (by with_reducible assumption)))))); intro y z; (try clear hUp); (try clear hOld); have hUp := y; have hOld := z; clear y z)))))
  all_goals
    go_ret2
    first
      | (refine RetX.mk (.error n1) ?_ ?_ rfl; rotate_left; (focus (simp only [withinF, orErr, hx1])))
      | (refine RetX.mk (.ok x2) ?_ ?_ rfl; rotate_left; (focus (simp only [withinF, orErr, hx1, hx2])))
    (repeat (first | (with_reducible exact Up.refl _) | (with_reducible assumption) | (with_reducible refine Up.alloc ?_ _) | (with_reducible refine Up.drew ?_) | ((with_reducible refine Up.set ?_ ?_ _); rotate_left; focus (first | omega | (simp; done) | (simp; omega))) | (with_reducible refine Up.drewN ?_ _) | (with_reducible refine Up.call ?_ (by with_reducible assumption))))
theorem hasG_no {s : Sp} {n : Int} {b : List Sp} {x : List Int} (h : n < s.lo ∨ s.hi < n) : hasG (s :: b) (n :: x) = false := by unfold hasG; rw [if_pos h]
theorem hasG_yes {s : Sp} {n : Int} {b : List Sp} {x : List Int} (h : ¬ (n < s.lo ∨ s.hi < n)) : hasG (s :: b) (n :: x) = hasG b x := by
  conv => lhs; unfold hasG
  rw [if_neg h]
theorem idrop (p : List Int) (k : Nat) (h : k < p.length) : p.drop k = (p[k]?.getD 0) :: p.drop (k + 1) := by
  rw [List.drop_eq_getElem_cons h, List.getElem?_eq_getElem h]; rfl
theorem RdI.at {w : World} {A : Option Addr} {l : List Int} (h : RdI w A l) (hl : 0 < l.length) : ∃ b o, A = some ⟨b, o, none⟩ ∧ b < w.heap.size ∧ ∀ k, k < l.length → w.cell? ⟨b, o + k, none⟩ = some (.int .i64 (l[k]?.getD 0)) :=
  h (fun e => by simp [e] at hl)
set_option maxHeartbeats 1000000 in
theorem bhas_any (A B : Option Addr) (b : List Sp) (x : List Int) (c d : Nat) (w : World) (ha : RdS w A b) (hb : RdI w B x) :
    Calls Tryd.prog 30 #[.slice A b.length c, .slice B x.length d] w (RetX boolR (hasF b x) w) := by
  have Ha := hid ha; have Hb := hid hb; clear ha hb
  by_cases hl : x.length = b.length
  · have Hl := hid hl
    have hdl : ((x.length : Int) != (b.length : Int)) = false := by simp; omega
    have hl1 : x.length ≤ b.length := by omega
    have hl2 : b.length ≤ x.length := by omega
    clear hl
    go_enter Tryd.func30, Tryd.ntmps30
    go_wp2_with (first
      | ((go_at_call 28; (with_reducible refine (bcheck_any _ _ _ _ (Ha.out.up (by (repeat (first | (with_reducible exact Up.refl _) | (with_reducible assumption) | (with_reducible refine Up.alloc ?_ _) | (with_reducible refine Up.drew ?_) | ((with_reducible refine Up.set ?_ ?_ _); rotate_left; focus (first | omega | (simp; done) | (simp; omega))) | (with_reducible refine Up.drewN ?_ _) | (with_reducible refine Up.call ?_ (by with_reducible assumption))))))).mono ?_); rintro e w1 ⟨(_|n1), hx1, rfl, hb1⟩) <;> (have hle := Up.le hb1; (try simp only [World.size_alloc, World.size_setCell, World.size_drew, World.heap_drewN] at hle); (try (have _ : w.heap.size < w1.heap.size := (by omega); (try (apply fk hb1 (w.heap.size); (focus (go_simp; rfl)); (focus (intro o; go_simp)); intro z; (try clear f_0); have f_0 := z; clear z)); (try (apply ck hb1 (w.heap.size) 0; (focus (go_simp; rfl)); intro z; (try clear c_0_0); have c_0_0 := z; clear z; (try (apply ck hb1 (w.heap.size) 1; (focus (go_simp; rfl)); intro z; (try clear c_0_1); have c_0_1 := z; clear z)))); (try (have _ : w.heap.size + 1 < w1.heap.size := (by omega); (try (apply fk hb1 (w.heap.size + 1); (focus (go_simp; rfl)); (focus (intro o; go_simp)); intro z; (try clear f_1); have f_1 := z; clear z)); (try (apply ck hb1 (w.heap.size + 1) 0; (focus (go_simp; rfl)); intro z; (try clear c_1_0); have c_1_0 := z; clear z; (try (apply ck hb1 (w.heap.size + 1) 1; (focus (go_simp; rfl)); intro z; (try clear c_1_1); have c_1_1 := z; clear z)))); (try (have _ : w.heap.size + 1 + 1 < w1.heap.size := (by omega); (try (apply fk hb1 (w.heap.size + 1 + 1); (focus (go_simp; rfl)); (focus (intro o; go_simp)); intro z; (try clear f_2); have f_2 := z; clear z)); (try (apply ck hb1 (w.heap.size + 1 + 1) 0; (focus (go_simp; rfl)); intro z; (try clear c_2_0); have c_2_0 := z; clear z; (try (apply ck hb1 (w.heap.size + 1 + 1) 1; (focus (go_simp; rfl)); intro z; (try clear c_2_1); have c_2_1 := z; clear z)))); (try (have _ : w.heap.size + 1 + 1 + 1 < w1.heap.size := (by omega); (try (apply fk hb1 (w.heap.size + 1 + 1 + 1); (focus (go_simp; rfl)); (focus (intro o; go_simp)); intro z; (try clear f_3); have f_3 := z; clear z)); (try (apply ck hb1 (w.heap.size + 1 + 1 + 1) 0; (focus (go_simp; rfl)); intro z; (try clear c_3_0); have c_3_0 := z; clear z; (try (apply ck hb1 (w.heap.size + 1 + 1 + 1) 1; (focus (go_simp; rfl)); intro z; (try clear c_3_1); have c_3_1 := z; clear z)))); (try (have _ : w.heap.size + 1 + 1 + 1 + 1 < w1.heap.size := (by omega); (try (apply fk hb1 (w.heap.size + 1 + 1 + 1 + 1); (focus (go_simp; rfl)); (focus (intro o; go_simp)); intro z; (try clear f_4); have f_4 := z; clear z)); (try (apply ck hb1 (w.heap.size + 1 + 1 + 1 + 1) 0; (focus (go_simp; rfl)); intro z; (try clear c_4_0); have c_4_0 := z; clear z; (try (apply ck hb1 (w.heap.size + 1 + 1 + 1 + 1) 1; (focus (go_simp; rfl)); intro z; (try clear c_4_1); have c_4_1 := z; clear z)))))))))))))); clear hle; (try (apply old_keep (w0 := w) (w := w1); (focus ((repeat (first | (with_reducible exact Up.refl _) | (with_reducible assumption) | (with_reducible refine Up.alloc ?_ _) | (with_reducible refine Up.drew ?_) | ((with_reducible refine Up.set ?_ ?_ _); rotate_left; focus (first | omega | (simp; done) | (simp; omega))) | (with_reducible refine Up.drewN ?_ _) | (with_reducible refine Up.call ?_ (by with_reducible assumption)))))); intro y z; (try clear hUp); (try clear hOld); have hUp := y; have hOld := z; clear y z)))))
    · have H1 := hid hx1
      have hlen := (bcheck_none hx1).2.1
      clear hx1
      have hle1 := hb1.le
      go_loopw [22] (fun i wr => ∃ k : Nat, k ≤ x.length ∧ i = .int .i64 k ∧ Hid (hasG b x = hasG (b.drop k) (x.drop k)) ∧ Up w wr) (fun i _ => x.length - (intOf i).toNat)
      case atStart =>
        refine ⟨0, by omega, rfl, rfl, ?_⟩
        (repeat (first | (with_reducible exact Up.refl _) | (with_reducible assumption) | (with_reducible refine Up.alloc ?_ _) | (with_reducible refine Up.drew ?_) | ((with_reducible refine Up.set ?_ ?_ _); rotate_left; focus (first | omega | (simp; done) | (simp; omega))) | (with_reducible refine Up.drewN ?_ _) | (with_reducible refine Up.call ?_ (by with_reducible assumption))))
      case round =>
        obtain ⟨k, hk, rfl, H, hU⟩ := hrel
        have gr := (bcell hU).1
        by_cases hlt : k < x.length
        · obtain ⟨b1, o1, rfl, l1, c1⟩ := (Ha.out).at (by omega)
          obtain ⟨b2, o2, rfl, l2, c2⟩ := (Hb.out).at (by omega)
          obtain ⟨k1, k2⟩ := c1 k (by omega)
          have k3 := c2 k hlt
          have Hda := hid (sdrop b k (by omega))
          have Hdb := hid (idrop x k hlt)
          generalize b[k]?.getD ⟨0, 0⟩ = s at *
          generalize x[k]?.getD 0 = n at *
          clear c1 c2
          have hle := hU.le
          have _ : b1 < wr.heap.size := by omega
          have _ : b2 < wr.heap.size := by omega
          have hdk : decide ((k : Int) < (x.length : Int)) = true := by simp; omega
          go_wp2
          all_goals
            first
              | (go_ret2; refine RetX.mk (.ok false) ?_ ?_ rfl; rotate_left; (focus (simp only [hasF]; rw [H1.out]; simp only []; rw [if_pos Hl.out, H.out, Hda.out, Hdb.out, hasG_no (by omega)])); (repeat (first | (with_reducible exact Up.refl _) | (with_reducible assumption) | (with_reducible refine Up.alloc ?_ _) | (with_reducible refine Up.drew ?_) | ((with_reducible refine Up.set ?_ ?_ _); rotate_left; focus (first | omega | (simp; done) | (simp; omega))) | (with_reducible refine Up.drewN ?_ _) | (with_reducible refine Up.call ?_ (by with_reducible assumption)))))
              | skip
          go_roundw
          case rel =>
            refine ⟨k + 1, by omega, by go_num, ?_, ?_⟩
            · show _ = _
              rw [H.out, Hda.out, Hdb.out]; exact hasG_yes (by omega)
            · (repeat (first | (with_reducible exact Up.refl _) | (with_reducible assumption) | (with_reducible refine Up.alloc ?_ _) | (with_reducible refine Up.drew ?_) | ((with_reducible refine Up.set ?_ ?_ _); rotate_left; focus (first | omega | (simp; done) | (simp; omega))) | (with_reducible refine Up.drewN ?_ _) | (with_reducible refine Up.call ?_ (by with_reducible assumption))))
          case measure => simp [intOf]; omega
        · obtain rfl : k = x.length := by omega
          go_wp2
          go_ret2
          refine RetX.mk (.ok true) hU ?_ rfl
          simp only [hasF]
          rw [H1.out]
          simp only []
          rw [if_pos Hl.out, H.out, List.drop_length]
          cases hh : b.drop x.length with
          | nil => rfl
          | cons a l => rfl
    · go_ret2
      refine RetX.mk (.error n1) ?_ ?_ rfl
      · (repeat (first | (with_reducible exact Up.refl _) | (with_reducible assumption) | (with_reducible refine Up.alloc ?_ _) | (with_reducible refine Up.drew ?_) | ((with_reducible refine Up.set ?_ ?_ _); rotate_left; focus (first | omega | (simp; done) | (simp; omega))) | (with_reducible refine Up.drewN ?_ _) | (with_reducible refine Up.call ?_ (by with_reducible assumption))))
      · simp only [hasF, hx1]
  · have Hl := hid hl
    have hdl : ((x.length : Int) != (b.length : Int)) = true := by simp; omega
    clear hl
    go_enter Tryd.func30, Tryd.ntmps30
    go_wp2_with (first
      | ((go_at_call 28; (with_reducible refine (bcheck_any _ _ _ _ (Ha.out.up (by (repeat (first | (with_reducible exact Up.refl _) | (with_reducible assumption) | (with_reducible refine Up.alloc ?_ _) | (with_reducible refine Up.drew ?_) | ((with_reducible refine Up.set ?_ ?_ _); rotate_left; focus (first | omega | (simp; done) | (simp; omega))) | (with_reducible refine Up.drewN ?_ _) | (with_reducible refine Up.call ?_ (by with_reducible assumption))))))).mono ?_); rintro e w1 ⟨(_|n1), hx1, rfl, hb1⟩) <;> (have hle := Up.le hb1; (try simp only [World.size_alloc, World.size_setCell, World.size_drew, World.heap_drewN] at hle); (try (have _ : w.heap.size < w1.heap.size := (by omega); (try (apply fk hb1 (w.heap.size); (focus (go_simp; rfl)); (focus (intro o; go_simp)); intro z; (try clear f_0); have f_0 := z; clear z)); (try (apply ck hb1 (w.heap.size) 0; (focus (go_simp; rfl)); intro z; (try clear c_0_0); have c_0_0 := z; clear z; (try (apply ck hb1 (w.heap.size) 1; (focus (go_simp; rfl)); intro z; (try clear c_0_1); have c_0_1 := z; clear z)))); (try (have _ : w.heap.size + 1 < w1.heap.size := (by omega); (try (apply fk hb1 (w.heap.size + 1); (focus (go_simp; rfl)); (focus (intro o; go_simp)); intro z; (try clear f_1); have f_1 := z; clear z)); (try (apply ck hb1 (w.heap.size + 1) 0; (focus (go_simp; rfl)); intro z; (try clear c_1_0); have c_1_0 := z; clear z; (try (apply ck hb1 (w.heap.size + 1) 1; (focus (go_simp; rfl)); intro z; (try clear c_1_1); have c_1_1 := z; clear z)))); (try (have _ : w.heap.size + 1 + 1 < w1.heap.size := (by omega); (try (apply fk hb1 (w.heap.size + 1 + 1); (focus (go_simp; rfl)); (focus (intro o; go_simp)); intro z; (try clear f_2); have f_2 := z; clear z)); (try (apply ck hb1 (w.heap.size + 1 + 1) 0; (focus (go_simp; rfl)); intro z; (try clear c_2_0); have c_2_0 := z; clear z; (try (apply ck hb1 (w.heap.size + 1 + 1) 1; (focus (go_simp; rfl)); intro z; (try clear c_2_1); have c_2_1 := z; clear z)))); (try (have _ : w.heap.size + 1 + 1 + 1 < w1.heap.size := (by omega); (try (apply fk hb1 (w.heap.size + 1 + 1 + 1); (focus (go_simp; rfl)); (focus (intro o; go_simp)); intro z; (try clear f_3); have f_3 := z; clear z)); (try (apply ck hb1 (w.heap.size + 1 + 1 + 1) 0; (focus (go_simp; rfl)); intro z; (try clear c_3_0); have c_3_0 := z; clear z; (try (apply ck hb1 (w.heap.size + 1 + 1 + 1) 1; (focus (go_simp; rfl)); intro z; (try clear c_3_1); have c_3_1 := z; clear z)))); (try (have _ : w.heap.size + 1 + 1 + 1 + 1 < w1.heap.size := (by omega); (try (apply fk hb1 (w.heap.size + 1 + 1 + 1 + 1); (focus (go_simp; rfl)); (focus (intro o; go_simp)); intro z; (try clear f_4); have f_4 := z; clear z)); (try (apply ck hb1 (w.heap.size + 1 + 1 + 1 + 1) 0; (focus (go_simp; rfl)); intro z; (try clear c_4_0); have c_4_0 := z; clear z; (try (apply ck hb1 (w.heap.size + 1 + 1 + 1 + 1) 1; (focus (go_simp; rfl)); intro z; (try clear c_4_1); have c_4_1 := z; clear z)))))))))))))); clear hle; (try (apply old_keep (w0 := w) (w := w1); (focus ((repeat (first | (with_reducible exact Up.refl _) | (with_reducible assumption) | (with_reducible refine Up.alloc ?_ _) | (with_reducible refine Up.drew ?_) | ((with_reducible refine Up.set ?_ ?_ _); rotate_left; focus (first | omega | (simp; done) | (simp; omega))) | (with_reducible refine Up.drewN ?_ _) | (with_reducible refine Up.call ?_ (by with_reducible assumption)))))); intro y z; (try clear hUp); (try clear hOld); have hUp := y; have hOld := z; clear y z)))))
    all_goals
      go_ret2
      first
        | (refine RetX.mk (.error n1) ?_ ?_ rfl; rotate_left; (focus (simp only [hasF, hx1])))
        | (refine RetX.mk (.error 3) ?_ ?_ rfl; rotate_left; (focus (simp only [hasF, hx1]; rw [if_neg Hl.out])))
      (repeat (first | (with_reducible exact Up.refl _) | (with_reducible assumption) | (with_reducible refine Up.alloc ?_ _) | (with_reducible refine Up.drew ?_) | ((with_reducible refine Up.set ?_ ?_ _); rotate_left; focus (first | omega | (simp; done) | (simp; omega))) | (with_reducible refine Up.drewN ?_ _) | (with_reducible refine Up.call ?_ (by with_reducible assumption))))
end Go.Proofs.YtafhcppigpjcpaaDoor
