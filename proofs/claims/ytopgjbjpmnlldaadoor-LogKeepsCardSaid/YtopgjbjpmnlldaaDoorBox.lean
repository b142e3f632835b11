/- The walks of package box that only read: Check, two, In, Within, Has. The walks of package box that only read: In, Within, Has. The walks of the reference's numbers: Floor, Ceil, Far0, Small. The walks of package spansame: Box. The walk of package spansame: Ints. Short slices whose cells are known. -/
import Derived.Test.YtopgjbjpmnlldaaDoorSpan
import Derived.Test.YtopgjbjpmnlldaaDoorBase
import Derived.LoopN
set_option linter.unusedVariables false
set_option linter.unusedSimpArgs false
namespace Go.Proofs.YtopgjbjpmnlldaaDoor
open Go.RowKit

theorem RdS.at {w : World} {A : Option Addr} {l : List Sp} (h : RdS w A l) (hl : 0 < l.length) : ∃ b o, A = some ⟨b, o, none⟩ ∧ b < w.heap.size ∧ ∀ k, k < l.length → w.cell? ⟨b, o + k * 2, none⟩ = some (.int .i64 (l[k]?.getD ⟨0, 0⟩).lo) ∧ w.cell? ⟨b, o + k * 2 + 1, none⟩ = some (.int .i64 (l[k]?.getD ⟨0, 0⟩).hi) :=
  h (fun e => by simp [e] at hl)
theorem sdrop (l : List Sp) (k : Nat) (h : k < l.length) : l.drop k = (l[k]?.getD ⟨0, 0⟩) :: l.drop (k + 1) := by
  rw [List.drop_eq_getElem_cons h, List.getElem?_eq_getElem h]; rfl
theorem firstBad_some {s : Sp} {l : List Sp} {e : Nat} (h : checkF s = some e) : firstBad (s :: l) = some e := by unfold firstBad; rw [h]
theorem firstBad_none {s : Sp} {l : List Sp} (h : checkF s = none) : firstBad (s :: l) = firstBad l := by
  conv => lhs; unfold firstBad
  rw [h]
set_option maxHeartbeats 1000000 in
theorem bcheck_any (A : Option Addr) (l : List Sp) (c : Nat) (w : World) (hr : RdS w A l) :
    Calls Tryd.prog 20 #[.slice A l.length c] w (RetX errV (bcheckF l) w) := by
  by_cases h0 : l.length = 0
  · have hrr : bcheckF l = some 5 := by simp [bcheckF, h0]
    rw [hrr, h0]
    clear hrr h0 hr
    go_enter Tryd.func20, Tryd.ntmps20
    go_wp2
    go_ret
    exact RetX.mk (some 5) (Up.refl _) rfl rfl
  · by_cases h3 : 3 < l.length
    · have hrr : bcheckF l = some 4 := by simp [bcheckF, h0, h3]
      rw [hrr]
      clear hrr hr
      have hd : ((l.length : Int) == 0) = false := beq_eq_false_iff_ne.2 (by omega)
      go_enter Tryd.func20, Tryd.ntmps20
      go_wp2
      go_ret
      exact RetX.mk (some 4) (Up.refl _) rfl rfl
    · have hrr : bcheckF l = firstBad l := by simp [bcheckF, h0, h3]
      rw [hrr]
      have hd : ((l.length : Int) == 0) = false := beq_eq_false_iff_ne.2 (by omega)
      have hd3 : decide ((3 : Int) < l.length) = false := by simp; omega
      obtain ⟨bb, o, rfl, hb, hc⟩ := hr.at (by omega)
      have Hc := hid hc
      have h3' : l.length ≤ 3 := by omega
      clear hrr h0 h3 hc hr
      go_enter Tryd.func20, Tryd.ntmps20
      go_wp2
      go_loopw [18] (fun i wr => ∃ k : Nat, k ≤ l.length ∧ i = .int .i64 k ∧ Hid (firstBad l = firstBad (l.drop k)) ∧ Up w wr) (fun i _ => l.length - (intOf i).toNat)
      case atStart => exact ⟨0, by omega, rfl, rfl, Up.refl _⟩
      case round =>
        obtain ⟨k, hk, rfl, H, hU⟩ := hrel
        have gr := (bcell hU).1
        have hl := hU.le
        by_cases hlt : k < l.length
        · obtain ⟨hk1, hk2⟩ := Hc.out k hlt
          have Hdr := hid (sdrop l k hlt)
          generalize l[k]?.getD ⟨0, 0⟩ = s at *
          have hdk : decide ((k : Int) < (l.length : Int)) = true := by simp; omega
          go_wp2_with ((go_at_call 9; (with_reducible refine (check_any _ _ _).mono ?_); rintro e w1 ⟨(_|n1), hx1, rfl, hb1⟩) <;> (have hle := Up.le hb1; (try simp only [World.size_alloc, World.size_setCell, World.size_drew, World.heap_drewN] at hle); (try (have _ : w.heap.size < w1.heap.size := (by omega); (try (apply fk hb1 (w.heap.size); (focus (go_simp; rfl)); (focus (intro o; go_simp)); intro z; (try clear f_0); have f_0 := z; clear z)); (try (apply ck hb1 (w.heap.size) 0; (focus (go_simp; rfl)); intro z; (try clear c_0_0); have c_0_0 := z; clear z; (try (apply ck hb1 (w.heap.size) 1; (focus (go_simp; rfl)); intro z; (try clear c_0_1); have c_0_1 := z; clear z)))); (try (have _ : w.heap.size + 1 < w1.heap.size := (by omega); (try (apply fk hb1 (w.heap.size + 1); (focus (go_simp; rfl)); (focus (intro o; go_simp)); intro z; (try clear f_1); have f_1 := z; clear z)); (try (apply ck hb1 (w.heap.size + 1) 0; (focus (go_simp; rfl)); intro z; (try clear c_1_0); have c_1_0 := z; clear z; (try (apply ck hb1 (w.heap.size + 1) 1; (focus (go_simp; rfl)); intro z; (try clear c_1_1); have c_1_1 := z; clear z)))); (try (have _ : w.heap.size + 1 + 1 < w1.heap.size := (by omega); (try (apply fk hb1 (w.heap.size + 1 + 1); (focus (go_simp; rfl)); (focus (intro o; go_simp)); intro z; (try clear f_2); have f_2 := z; clear z)); (try (apply ck hb1 (w.heap.size + 1 + 1) 0; (focus (go_simp; rfl)); intro z; (try clear c_2_0); have c_2_0 := z; clear z; (try (apply ck hb1 (w.heap.size + 1 + 1) 1; (focus (go_simp; rfl)); intro z; (try clear c_2_1); have c_2_1 := z; clear z)))); (try (have _ : w.heap.size + 1 + 1 + 1 < w1.heap.size := (by omega); (try (apply fk hb1 (w.heap.size + 1 + 1 + 1); (focus (go_simp; rfl)); (focus (intro o; go_simp)); intro z; (try clear f_3); have f_3 := z; clear z)); (try (apply ck hb1 (w.heap.size + 1 + 1 + 1) 0; (focus (go_simp; rfl)); intro z; (try clear c_3_0); have c_3_0 := z; clear z; (try (apply ck hb1 (w.heap.size + 1 + 1 + 1) 1; (focus (go_simp; rfl)); intro z; (try clear c_3_1); have c_3_1 := z; clear z)))); (try (have _ : w.heap.size + 1 + 1 + 1 + 1 < w1.heap.size := (by omega); (try (apply fk hb1 (w.heap.size + 1 + 1 + 1 + 1); (focus (go_simp; rfl)); (focus (intro o; go_simp)); intro z; (try clear f_4); have f_4 := z; clear z)); (try (apply ck hb1 (w.heap.size + 1 + 1 + 1 + 1) 0; (focus (go_simp; rfl)); intro z; (try clear c_4_0); have c_4_0 := z; clear z; (try (apply ck hb1 (w.heap.size + 1 + 1 + 1 + 1) 1; (focus (go_simp; rfl)); intro z; (try clear c_4_1); have c_4_1 := z; clear z)))))))))))))); (try (have _ : wr.heap.size < w1.heap.size := (by omega); (try (apply fk hb1 (wr.heap.size); (focus (go_simp; rfl)); (focus (intro o; go_simp)); intro z; (try clear fr_0); have fr_0 := z; clear z)); (try (apply ck hb1 (wr.heap.size) 0; (focus (go_simp; rfl)); intro z; (try clear cr_0_0); have cr_0_0 := z; clear z; (try (apply ck hb1 (wr.heap.size) 1; (focus (go_simp; rfl)); intro z; (try clear cr_0_1); have cr_0_1 := z; clear z)))); (try (have _ : wr.heap.size + 1 < w1.heap.size := (by omega); (try (apply fk hb1 (wr.heap.size + 1); (focus (go_simp; rfl)); (focus (intro o; go_simp)); intro z; (try clear fr_1); have fr_1 := z; clear z)); (try (apply ck hb1 (wr.heap.size + 1) 0; (focus (go_simp; rfl)); intro z; (try clear cr_1_0); have cr_1_0 := z; clear z; (try (apply ck hb1 (wr.heap.size + 1) 1; (focus (go_simp; rfl)); intro z; (try clear cr_1_1); have cr_1_1 := z; clear z)))); (try (have _ : wr.heap.size + 1 + 1 < w1.heap.size := (by omega); (try (apply fk hb1 (wr.heap.size + 1 + 1); (focus (go_simp; rfl)); (focus (intro o; go_simp)); intro z; (try clear fr_2); have fr_2 := z; clear z)); (try (apply ck hb1 (wr.heap.size + 1 + 1) 0; (focus (go_simp; rfl)); intro z; (try clear cr_2_0); have cr_2_0 := z; clear z; (try (apply ck hb1 (wr.heap.size + 1 + 1) 1; (focus (go_simp; rfl)); intro z; (try clear cr_2_1); have cr_2_1 := z; clear z)))); (try (have _ : wr.heap.size + 1 + 1 + 1 < w1.heap.size := (by omega); (try (apply fk hb1 (wr.heap.size + 1 + 1 + 1); (focus (go_simp; rfl)); (focus (intro o; go_simp)); intro z; (try clear fr_3); have fr_3 := z; clear z)); (try (apply ck hb1 (wr.heap.size + 1 + 1 + 1) 0; (focus (go_simp; rfl)); intro z; (try clear cr_3_0); have cr_3_0 := z; clear z; (try (apply ck hb1 (wr.heap.size + 1 + 1 + 1) 1; (focus (go_simp; rfl)); intro z; (try clear cr_3_1); have cr_3_1 := z; clear z)))); (try (have _ : wr.heap.size + 1 + 1 + 1 + 1 < w1.heap.size := (by omega); (try (apply fk hb1 (wr.heap.size + 1 + 1 + 1 + 1); (focus (go_simp; rfl)); (focus (intro o; go_simp)); intro z; (try clear fr_4); have fr_4 := z; clear z)); (try (apply ck hb1 (wr.heap.size + 1 + 1 + 1 + 1) 0; (focus (go_simp; rfl)); intro z; (try clear cr_4_0); have cr_4_0 := z; clear z; (try (apply ck hb1 (wr.heap.size + 1 + 1 + 1 + 1) 1; (focus (go_simp; rfl)); intro z; (try clear cr_4_1); have cr_4_1 := z; clear z)))))))))))))); clear hle; (try (apply old_keep (w0 := w) (w := w1); (focus ((repeat (first | (with_reducible exact Up.refl _) | (with_reducible assumption) | (with_reducible refine Up.alloc ?_ _) | (with_reducible refine Up.drew ?_) | ((with_reducible refine Up.set ?_ ?_ _); rotate_left; focus (first | omega | (simp; done) | (simp; omega))) | (with_reducible refine Up.drewN ?_ _) | (with_reducible refine Up.call ?_ (by with_reducible assumption)))))); intro y z; (try clear hUp); (try clear hOld); have hUp := y; have hOld := z; clear y z))))
          · go_roundw
            case rel =>
              refine ⟨k + 1, by omega, by go_num, ?_, ?_⟩
              · show _ = _
                rw [H.out, Hdr.out]; exact firstBad_none hx1
              · (repeat (first | (with_reducible exact Up.refl _) | (with_reducible assumption) | (with_reducible refine Up.alloc ?_ _) | (with_reducible refine Up.drew ?_) | ((with_reducible refine Up.set ?_ ?_ _); rotate_left; focus (first | omega | (simp; done) | (simp; omega))) | (with_reducible refine Up.drewN ?_ _) | (with_reducible refine Up.call ?_ (by with_reducible assumption))))
            case measure => simp [intOf]; omega
          · go_ret
            refine RetX.mk (some n1) ?_ ?_ rfl
            · (repeat (first | (with_reducible exact Up.refl _) | (with_reducible assumption) | (with_reducible refine Up.alloc ?_ _) | (with_reducible refine Up.drew ?_) | ((with_reducible refine Up.set ?_ ?_ _); rotate_left; focus (first | omega | (simp; done) | (simp; omega))) | (with_reducible refine Up.drewN ?_ _) | (with_reducible refine Up.call ?_ (by with_reducible assumption))))
            · rw [H.out, Hdr.out]; exact firstBad_some hx1
        · obtain rfl : k = l.length := by omega
          go_wp2
          go_ret
          refine RetX.mk none hU ?_ rfl
          rw [H.out, List.drop_length]; rfl

end Go.Proofs.YtopgjbjpmnlldaaDoor

namespace Go.Proofs.YtopgjbjpmnlldaaDoor
open Go.RowKit

theorem inF_no {s t : Sp} {a b : List Sp} (h : s.lo < t.lo ∨ t.hi < s.hi) : inF (s :: a) (t :: b) = false := by unfold inF; rw [if_pos h]
theorem inF_yes {s t : Sp} {a b : List Sp} (h : ¬ (s.lo < t.lo ∨ t.hi < s.hi)) : inF (s :: a) (t :: b) = inF a b := by
  conv => lhs; unfold inF
  rw [if_neg h]
theorem btwo_none {a b : List Sp} (h : btwoF a b = none) : bcheckF a = none ∧ bcheckF b = none ∧ a.length = b.length := by
  unfold btwoF at h
  split at h
  · cases h
  · split at h
    · cases h
    · split at h
      · exact ⟨by assumption, by assumption, by assumption⟩
      · cases h
theorem firstBad_all {l : List Sp} : firstBad l = none → ∀ s ∈ l, Rt s := by
  induction l with
  | nil => intro _ s hs; cases hs
  | cons t l ih =>
    intro h s hs
    unfold firstBad at h
    split at h
    · cases h
    · rename_i ht
      rcases List.mem_cons.1 hs with e | e
      · rw [e]; exact checkF_none.1 ht
      · exact ih h s e
theorem bcheck_none {l : List Sp} (h : bcheckF l = none) : 0 < l.length ∧ l.length ≤ 3 ∧ ∀ s ∈ l, Rt s := by
  unfold bcheckF at h
  split at h
  · cases h
  · split at h
    · cases h
    · exact ⟨by omega, by omega, firstBad_all h⟩
theorem hasG_no {s : Sp} {n : Int} {b : List Sp} {x : List Int} (h : n < s.lo ∨ s.hi < n) : hasG (s :: b) (n :: x) = false := by unfold hasG; rw [if_pos h]
theorem hasG_yes {s : Sp} {n : Int} {b : List Sp} {x : List Int} (h : ¬ (n < s.lo ∨ s.hi < n)) : hasG (s :: b) (n :: x) = hasG b x := by
  conv => lhs; unfold hasG
  rw [if_neg h]
theorem idrop (p : List Int) (k : Nat) (h : k < p.length) : p.drop k = (p[k]?.getD 0) :: p.drop (k + 1) := by
  rw [List.drop_eq_getElem_cons h, List.getElem?_eq_getElem h]; rfl
theorem RdI.at {w : World} {A : Option Addr} {l : List Int} (h : RdI w A l) (hl : 0 < l.length) : ∃ b o, A = some ⟨b, o, none⟩ ∧ b < w.heap.size ∧ ∀ k, k < l.length → w.cell? ⟨b, o + k, none⟩ = some (.int .i64 (l[k]?.getD 0)) :=
  h (fun e => by simp [e] at hl)
end Go.Proofs.YtopgjbjpmnlldaaDoor

namespace Go.Proofs.YtopgjbjpmnlldaaDoor
open Go.RowKit

def far0F (n : Int) : Int := if n < 0 then -n else n
/-- Is it so small? -/
def Lit5 (n : Int) : Prop := -5000 ≤ n ∧ n ≤ 5000
instance (n : Int) : Decidable (Lit5 n) := by unfold Lit5; infer_instance
def smallB (p : List Int) (n : Int) : Bool := decide (1 ≤ p.length ∧ p.length ≤ 5 ∧ Lit5 n ∧ ∀ c ∈ p, Lit5 c)
theorem smallB_true {p : List Int} {n : Int} (h : smallB p n = true) : 0 < p.length ∧ p.length ≤ 5 ∧ Lit5 n ∧ ∀ c ∈ p, Lit5 c := by
  unfold smallB at h
  have := of_decide_eq_true h
  exact ⟨by omega, this.2.1, this.2.2⟩
theorem all5_split {p : List Int} {k : Nat} (hk : k < p.length) (h : ∀ c ∈ p.take k, Lit5 c) : (∀ c ∈ p.take (k + 1), Lit5 c) ↔ Lit5 (p[k]?.getD 0) := by
  rw [List.take_succ_eq_append_getElem hk]
  rw [show p[k]?.getD 0 = p[k] by simp [hk]]
  constructor
  · intro hh; exact hh _ (List.mem_append_right _ (List.mem_singleton.2 rfl))
  · intro hh c hc
    rcases List.mem_append.1 hc with e | e
    · exact h c e
    · simp at e; rw [e]; exact hh
end Go.Proofs.YtopgjbjpmnlldaaDoor

namespace Go.Proofs.YtopgjbjpmnlldaaDoor
open Go.RowKit

theorem take_eq_step {a b : List Sp} {k : Nat} (ha : k < a.length) (hb : k < b.length) (h : a.take k = b.take k) : a.take (k + 1) = b.take (k + 1) ↔ a[k]?.getD ⟨0, 0⟩ = b[k]?.getD ⟨0, 0⟩ := by
  rw [List.take_succ_eq_append_getElem ha, List.take_succ_eq_append_getElem hb, h, List.getElem?_eq_getElem ha, List.getElem?_eq_getElem hb, List.append_cancel_left_eq]
  simp only [List.cons.injEq, and_true, Option.getD_some]
theorem sp_eq {s t : Sp} : s = t ↔ s.lo = t.lo ∧ s.hi = t.hi := by
  constructor
  · intro h; rw [h]; exact ⟨rfl, rfl⟩
  · intro h; exact Sp.ext' h.1 h.2
set_option maxHeartbeats 1000000 in
theorem sbox_any (A B : Option Addr) (a b : List Sp) (c d : Nat) (w : World) (ha : RdS w A a) (hb : RdS w B b) (hm : a.length ≤ 9223372036854775807) :
    Calls Tryd.prog 25 #[.slice A a.length c, .slice B b.length d] w (RetX boolV (decide (a = b)) w) := by
  have Ha := hid ha; have Hb := hid hb; have Hm := hid hm; clear ha hb hm
  by_cases hl : a.length = b.length
  · have hl1 : a.length ≤ b.length := by omega
    have hl2 : b.length ≤ a.length := by omega
    have Hl := hid hl
    have hd : ((a.length : Int) != (b.length : Int)) = false := by simp; omega
    clear hl
    go_enter Tryd.func25, Tryd.ntmps25
    go_wp2
    go_loopw [5] (fun i wr => ∃ k : Nat, k ≤ a.length ∧ i = .int .i64 k ∧ Hid (a.take k = b.take k) ∧ Up w wr) (fun i _ => a.length - (intOf i).toNat)
    case atStart => exact ⟨0, by omega, rfl, rfl, Up.refl _⟩
    case round =>
      obtain ⟨k, hk, rfl, H, hU⟩ := hrel
      have gr := (bcell hU).1
      have hle := hU.le
      by_cases hlt : k < a.length
      · obtain ⟨b1, o1, rfl, l1, c1⟩ := (Ha.out).at (by omega)
        obtain ⟨b2, o2, rfl, l2, c2⟩ := (Hb.out).at (by omega)
        obtain ⟨k1, k2⟩ := c1 k hlt
        obtain ⟨k3, k4⟩ := c2 k (by omega)
        have Hst := hid (take_eq_step hlt (by omega) H.out)
        have Hne := hid (fun (h : a = b) => (show a[k]?.getD ⟨0, 0⟩ = b[k]?.getD ⟨0, 0⟩ from by rw [h]))
        generalize a[k]?.getD ⟨0, 0⟩ = s at *
        generalize b[k]?.getD ⟨0, 0⟩ = t at *
        clear c1 c2
        have _ : b1 < wr.heap.size := by omega
        have _ : b2 < wr.heap.size := by omega
        have hak : ((k : Int) < (a.length : Int)) := by omega
        have hdk : decide ((k : Int) < (a.length : Int)) = true := by simp; omega
        have hkb : ((k : Int) < (b.length : Int)) := by omega
        have hk0 : (0 : Int) ≤ (k : Int) := by omega
        have hka : (k : Int) + 1 ≤ 9223372036854775807 := by have := Hm.out; omega
        have Hlt := hid hlt
        by_cases e1 : s.lo = t.lo
        · by_cases e2 : s.hi = t.hi
          · have Hee := hid (Hst.out.2 (sp_eq.2 ⟨e1, e2⟩))
            rw [e1] at k1
            rw [e2] at k2
            clear e1 e2
            go_wp2_with fail
            go_quiet (fail)
            go_wp2
            go_roundw
            case rel => exact ⟨k + 1, by have := Hlt.out; omega, by go_num, Hee.out, hU.drewN nq⟩
            case measure => have := Hlt.out; simp [intOf]; omega
          · have Hx := hid (show ¬ a = b from fun h => e2 (sp_eq.1 (Hne.out h)).2)
            have d1 : (s.hi == t.hi) = false := beq_eq_false_iff_ne.2 e2
            rw [e1] at k1
            clear e1 e2
            go_wp2_with fail
            go_quiet (fail)
            go_wp2
            go_ret
            refine RetX.mk false (hU.drewN nq) (decide_eq_false Hx.out) rfl
        · have Hx := hid (show ¬ a = b from fun h => e1 (sp_eq.1 (Hne.out h)).1)
          have d1 : (s.lo == t.lo) = false := beq_eq_false_iff_ne.2 e1
          clear e1
          go_wp2_with fail
          go_quiet (fail)
          go_wp2
          go_ret
          refine RetX.mk false (hU.drewN nq) (decide_eq_false Hx.out) rfl
      · obtain rfl : k = a.length := by omega
        have H2 := H.out
        rw [List.take_length, Hl.out, List.take_length] at H2
        have Hx := hid H2
        clear H2
        go_wp2
        go_ret
        refine RetX.mk true hU (decide_eq_true Hx.out) rfl
  · have Hx := hid (show ¬ a = b from fun h => hl (by rw [h]))
    have hd : ((a.length : Int) != (b.length : Int)) = true := by simp; omega
    clear hl
    go_enter Tryd.func25, Tryd.ntmps25
    go_wp2
    go_ret
    refine RetX.mk false (Up.refl _) (decide_eq_false Hx.out) rfl
end Go.Proofs.YtopgjbjpmnlldaaDoor

namespace Go.Proofs.YtopgjbjpmnlldaaDoor
open Go.RowKit

theorem take_eqI_step {a b : List Int} {k : Nat} (ha : k < a.length) (hb : k < b.length) (h : a.take k = b.take k) : a.take (k + 1) = b.take (k + 1) ↔ a[k]?.getD 0 = b[k]?.getD 0 := by
  rw [List.take_succ_eq_append_getElem ha, List.take_succ_eq_append_getElem hb, h, List.getElem?_eq_getElem ha, List.getElem?_eq_getElem hb, List.append_cancel_left_eq]
  simp only [List.cons.injEq, and_true, Option.getD_some]
end Go.Proofs.YtopgjbjpmnlldaaDoor

namespace Go.Proofs.YtopgjbjpmnlldaaDoor
open Go.RowKit

theorem rdi1 {W : World} {g : Nat} {a : Int} (ha : W.cell? ⟨g, 0, none⟩ = some (.int .i64 a)) : RdI W (some ⟨g, 0, none⟩) [a] := fun _ =>
  ⟨g, 0, rfl, World.block_lt_of_cell? W _ ha, fun k hk => by match k, hk with | 0, _ => exact ha⟩
theorem rdi2 {W : World} {g : Nat} {a b : Int} (ha : W.cell? ⟨g, 0, none⟩ = some (.int .i64 a)) (hb : W.cell? ⟨g, 1, none⟩ = some (.int .i64 b)) : RdI W (some ⟨g, 0, none⟩) [a, b] := fun _ =>
  ⟨g, 0, rfl, World.block_lt_of_cell? W _ ha, fun k hk => by match k, hk with | 0, _ => exact ha | 1, _ => exact hb⟩
theorem rdi3 {W : World} {g : Nat} {a b c : Int} (ha : W.cell? ⟨g, 0, none⟩ = some (.int .i64 a)) (hb : W.cell? ⟨g, 1, none⟩ = some (.int .i64 b)) (hc : W.cell? ⟨g, 2, none⟩ = some (.int .i64 c)) : RdI W (some ⟨g, 0, none⟩) [a, b, c] := fun _ =>
  ⟨g, 0, rfl, World.block_lt_of_cell? W _ ha, fun k hk => by match k, hk with | 0, _ => exact ha | 1, _ => exact hb | 2, _ => exact hc⟩
theorem rds1 {W : World} {g : Nat} {s : Sp} (h0 : W.cell? ⟨g, 0, none⟩ = some (.int .i64 s.lo)) (h1 : W.cell? ⟨g, 1, none⟩ = some (.int .i64 s.hi)) : RdS W (some ⟨g, 0, none⟩) [s] := fun _ =>
  ⟨g, 0, rfl, World.block_lt_of_cell? W _ h0, fun k hk => by match k, hk with | 0, _ => exact ⟨h0, h1⟩⟩
theorem rds2 {W : World} {g : Nat} {s t : Sp} (h0 : W.cell? ⟨g, 0, none⟩ = some (.int .i64 s.lo)) (h1 : W.cell? ⟨g, 1, none⟩ = some (.int .i64 s.hi)) (h2 : W.cell? ⟨g, 2, none⟩ = some (.int .i64 t.lo)) (h3 : W.cell? ⟨g, 3, none⟩ = some (.int .i64 t.hi)) :
    RdS W (some ⟨g, 0, none⟩) [s, t] := fun _ =>
  ⟨g, 0, rfl, World.block_lt_of_cell? W _ h0, fun k hk => by match k, hk with | 0, _ => exact ⟨h0, h1⟩ | 1, _ => exact ⟨h2, h3⟩⟩
end Go.Proofs.YtopgjbjpmnlldaaDoor
