/- The walks of the reference's forms: Form, Small, Numbers, Exact, Point. -/
import Derived.Test.YteoomjenekkomaaDoorRfq
import Derived.Test.YteoomjenekkomaaDoorForme
set_option linter.unusedVariables false
set_option linter.unusedSimpArgs false
namespace Go.Proofs.YteoomjenekkomaaDoor
open Go.RowKit

/-- The term's factor, and so many of its powers, are right. -/
def tOk (t : Tm) : Nat → Bool
  | 0 => mayB t.by_
  | k + 1 => tOk t k && (decide (0 ≤ t.time k) && decide (t.time k ≤ 3))
def tAll (t : Tm) : Nat → Int
  | 0 => 0
  | k + 1 => tAll t k + (if t.time k < 0 ∨ 3 < t.time k then 0 else t.time k)
theorem tAll_bd (t : Tm) : ∀ k : Nat, 0 ≤ tAll t k ∧ tAll t k ≤ 3 * k
  | 0 => by simp [tAll]
  | k + 1 => by
    have := tAll_bd t k
    unfold tAll
    split <;> omega
theorem tok_all {t : Tm} (h : tOk t 3 = true) : M t.by_ ∧ 0 ≤ t.t0 ∧ t.t0 ≤ 3 ∧ 0 ≤ t.t1 ∧ t.t1 ≤ 3 ∧ 0 ≤ t.t2 ∧ t.t2 ≤ 3 ∧ tAll t 3 = t.t0 + t.t1 + t.t2 := by
  simp only [tOk, Tm.time, Bool.and_eq_true, decide_eq_true_eq] at h
  obtain ⟨⟨⟨h0, h1, h2⟩, h3, h4⟩, h5, h6⟩ := h
  refine ⟨mayB_true.1 h0, h1, h2, h3, h4, h5, h6, ?_⟩
  simp only [tAll, Tm.time]
  rw [if_neg (by omega), if_neg (by omega), if_neg (by omega)]
  omega
theorem tok_no {t : Tm} {n : Nat} (h : tOk t 3 = false) : tcheckF t n = some 1 := by
  by_cases hM : M t.by_
  · refine tc1 hM ?_
    have h1 := mayB_true.2 hM
    refine Classical.byContradiction fun hc => ?_
    have h2 : tOk t 3 = true := by
      simp only [tOk, Tm.time, Bool.and_eq_true, decide_eq_true_eq]
      exact ⟨⟨⟨h1, by omega, by omega⟩, by omega, by omega⟩, by omega, by omega⟩
    rw [h] at h2; cases h2
  · unfold tcheckF; rw [if_pos hM]
theorem tok_big {t : Tm} {n : Nat} (h : tOk t 3 = true) (h2 : 3 < tAll t 3) : tcheckF t n = some 1 := by
  obtain ⟨hM, a1, a2, a3, a4, a5, a6, e⟩ := tok_all h
  exact tc1 hM (by omega)
theorem tok_side {t : Tm} {n j : Nat} (h : tOk t 3 = true) (h2 : ¬ 3 < tAll t 3) (h1 : 1 ≤ n) (hn : n ≤ j) (hj : j < 3) (hp : 0 < t.time j) : tcheckF t n = some 3 := by
  obtain ⟨hM, a1, a2, a3, a4, a5, a6, e⟩ := tok_all h
  refine tc3 hM (by omega) ?_
  have : j = 1 ∨ j = 2 := by omega
  rcases this with rfl | rfl
  · exact .inl ⟨by omega, hp⟩
  · exact .inr ⟨by omega, hp⟩
theorem tok_fine {t : Tm} {n : Nat} (h : tOk t 3 = true) (h2 : ¬ 3 < tAll t 3) (hz : ∀ i, n ≤ i → i < 3 → t.time i ≤ 0) : tcheckF t n = none := by
  obtain ⟨hM, a1, a2, a3, a4, a5, a6, e⟩ := tok_all h
  refine tc0 hM (by omega) ?_
  rintro (⟨h1, h3⟩ | ⟨h1, h3⟩)
  · have := hz 1 (by omega) (by omega)
    simp only [Tm.time] at this
    omega
  · have := hz 2 (by omega) (by omega)
    simp only [Tm.time] at this
    omega
theorem RdT.time {w : World} {A : Option Addr} {f : List Tm} (h : RdT w A f) {k : Nat} (hk : k < f.length) : ∃ b o, A = some ⟨b, o, none⟩ ∧ b < w.heap.size ∧ w.cell? ⟨b, o + k * 4, none⟩ = some (.int .i64 (f[k]?.getD default).by_) ∧
    ∀ j, j < 3 → w.cell? ⟨b, o + k * 4 + 1 + j, none⟩ = some (.int .i64 ((f[k]?.getD default).time j)) := by
  obtain ⟨b, o, rfl, lb, cc⟩ := h.at (by omega)
  obtain ⟨q1, q2, q3, q4⟩ := cc k hk
  refine ⟨b, o, rfl, lb, q1, fun j hj => ?_⟩
  match j, hj with
  | 0, _ => exact q2
  | 1, _ => exact q3
  | 2, _ => exact q4
theorem fcheck_num {f : List Tm} {n : Int} {e : Nat} (h : fcheckF f n = some e) : e = 1 ∨ e = 4 ∨ e = 3 := by
  have ht : ∀ (t : Tm) (k e : Nat), tcheckF t k = some e → e = 1 ∨ e = 3 := by
    intro t k e h
    unfold tcheckF at h
    split at h
    · injection h with h; omega
    · split at h
      · injection h with h; omega
      · split at h
        · injection h with h; omega
        · split at h
          · injection h with h; omega
          · cases h
  have hb : ∀ (k : Nat) (l : List Tm) (e : Nat), firstBadT k l = some e → e = 1 ∨ e = 3 := by
    intro k l
    induction l with
    | nil => intro e h; cases h
    | cons t l ih =>
      intro e h
      unfold firstBadT at h
      split at h
      · rename_i k' hk'; injection h with h; subst h; exact ht _ _ _ hk'
      · exact ih e h
  unfold fcheckF at h
  split at h
  · injection h with h; omega
  · split at h
    · injection h with h; omega
    · have := hb _ _ _ h; omega
set_option maxRecDepth 100000 in
set_option maxHeartbeats 4000000 in
theorem rform_any (A : Option Addr) (f : List Tm) (c : Nat) (sides : Int) (w : World) (hr : RdT w A f) :
    Calls Tryd.prog 38 #[.slice A f.length c, .int .i64 sides] w (RetX numV (fcheckF f sides) w) := by
  by_cases hs : 1 ≤ sides ∧ sides ≤ 3
  · obtain ⟨n, rfl⟩ : ∃ n : Nat, sides = (n : Int) := ⟨sides.toNat, by omega⟩
    have d1 : decide ((n : Int) < 1) = false := decide_eq_false (by omega)
    have d2 : decide ((3 : Int) < (n : Int)) = false := decide_eq_false (by omega)
    by_cases h6 : 6 < f.length
    · have hrr : fcheckF f (n : Int) = some 4 := by unfold fcheckF; rw [if_neg (by omega), if_pos h6]
      rw [hrr]
      have d6 : decide ((6 : Int) < (f.length : Int)) = true := by simp; omega
      clear hrr hr hs h6
      go_enter Tryd.func38, Tryd.ntmps38
      go_wp2
      go_ret
      exact RetX.mk (some 4) (Up.refl _) rfl rfl
    · have hrr : fcheckF f (n : Int) = firstBadT n f := by unfold fcheckF; rw [if_neg (by omega), if_neg h6]; simp
      rw [hrr]
      have d6 : decide ((6 : Int) < (f.length : Int)) = false := by simp; omega
      have Hr := hid hr
      have n1 : 1 ≤ n := by omega
      have n3 : n ≤ 3 := by omega
      have N1 := hid n1; have N3 := hid n3; have H6 := hid h6
      clear hrr hr hs h6 n1 n3
      go_enter Tryd.func38, Tryd.ntmps38
      go_wp2
      go_loop [5] (fun i => ∃ k : Nat, k ≤ f.length ∧ i = .int .i64 k ∧ Hid (firstBadT n f = firstBadT n (f.drop k))) (fun i => f.length - (intOf i).toNat)
      case atStart => exact ⟨0, by omega, rfl, rfl⟩
      case round =>
        obtain ⟨k, hk, rfl, H⟩ := hrel
        by_cases hlt : k < f.length
        · obtain ⟨b1, o1, rfl, l1, q0, qt⟩ := (Hr.out).time hlt
          have Hdr := hid (tdrop f k hlt)
          have Hlt := hid hlt
          have H66 := H6.out
          generalize f[k]?.getD default = t at *
          have Qt := hid qt
          have hdk : decide ((k : Int) < (f.length : Int)) = true := by simp; omega
          have hkm : (k : Int) < (f.length : Int) := by omega
          have hk0 : (0 : Int) ≤ (k : Int) := by omega
          have hk6 : (k : Int) < 6 := by omega
          clear qt
          go_wp2_with ((go_at_call 80; refine (rmay_any _ _).mono ?_; rintro e w' ⟨rfl, rfl⟩))
          go_loop [6, 7, 8] (fun ok al j => ∃ jj : Nat, jj ≤ 3 ∧ ok = .bool (tOk t jj) ∧ al = .int .i64 (tAll t jj) ∧ j = .int .i64 jj) (fun _ _ j => 3 - (intOf j).toNat)
          case atStart => exact ⟨0, by omega, rfl, rfl, rfl⟩
          case round =>
            obtain ⟨jj, hj, rfl, rfl, rfl⟩ := hrel
            by_cases hjl : jj < 3
            · have ht := Qt.out jj hjl
              have hjd : decide ((jj : Int) < 3) = true := by simp; omega
              have hj0 : (0 : Int) ≤ (jj : Int) := by omega
              have hj3 : (jj : Int) < 3 := by omega
              have hO := hid (show tOk t (jj + 1) = (tOk t jj && (decide (0 ≤ t.time jj) && decide (t.time jj ≤ 3))) from rfl)
              have hA := hid (show tAll t (jj + 1) = tAll t jj + (if t.time jj < 0 ∨ 3 < t.time jj then 0 else t.time jj) from rfl)
              obtain ⟨b0, b3⟩ := tAll_bd t jj
              generalize t.time jj = v at *
              have Hj := hid hjl
              rcases Int.lt_or_le v 0 with e1 | e1
              · have e2 : decide (v < 0) = true := decide_eq_true e1
                go_wp2
                go_round
                case rel =>
                  refine ⟨jj + 1, by have := Hj.out; omega, ?_, ?_, by go_num⟩
                  · rw [hO.out, decide_eq_false (by omega : ¬ 0 ≤ v)]; simp
                  · rw [hA.out, if_pos (by omega), Int.add_zero]
                case measure => have := Hj.out; simp [intOf]; omega
              · have e2 : decide (v < 0) = false := decide_eq_false (by omega)
                rcases Int.lt_or_le 3 v with e3 | e3
                · have e4 : decide (3 < v) = true := decide_eq_true e3
                  go_wp2
                  go_round
                  case rel =>
                    refine ⟨jj + 1, by have := Hj.out; omega, ?_, ?_, by go_num⟩
                    · rw [hO.out, decide_eq_false (by omega : ¬ v ≤ 3)]; simp
                    · rw [hA.out, if_pos (by omega), Int.add_zero]
                  case measure => have := Hj.out; simp [intOf]; omega
                · have e4 : decide (3 < v) = false := decide_eq_false (by omega)
                  go_wp2
                  go_round
                  case rel =>
                    refine ⟨jj + 1, by have := Hj.out; omega, ?_, ?_, by go_num⟩
                    · rw [hO.out, decide_eq_true e1, decide_eq_true e3]; simp
                    · rw [hA.out, if_neg (by omega)]
                  case measure => have := Hj.out; simp [intOf]; omega
            · obtain rfl : jj = 3 := by omega
              cases hO : tOk t 3 with
              | false =>
                have HO := hid hO
                have Hlt2 := Hlt.out
                clear hO
                go_wp2
                go_ret
                refine RetX.mk (some 1) (Up.refl _) ?_ rfl
                rw [H.out, Hdr.out]; exact fb_some (tok_no HO.out)
              | true =>
                have HO := hid hO
                clear hO
                by_cases hA : 3 < tAll t 3
                · have dA : decide (3 < tAll t 3) = true := decide_eq_true hA
                  have HA := hid hA
                  go_wp2
                  go_ret
                  refine RetX.mk (some 1) (Up.refl _) ?_ rfl
                  rw [H.out, Hdr.out]; exact fb_some (tok_big HO.out (by have := HA.out; omega))
                · have dA : decide (3 < tAll t 3) = false := decide_eq_false hA
                  have HA := hid hA
                  clear hA
                  go_wp2
                  go_loop [10] (fun j => ∃ jj : Nat, n ≤ jj ∧ jj ≤ 3 ∧ j = .int .i64 jj ∧ Hid (∀ i, n ≤ i → i < jj → t.time i ≤ 0)) (fun j => 3 - (intOf j).toNat)
                  case atStart => exact ⟨n, by omega, N3.out, rfl, fun i h1 h2 => by omega⟩
                  case round =>
                    obtain ⟨jj, hn, hj, rfl, HZ⟩ := hrel
                    by_cases hjl : jj < 3
                    · have ht := Qt.out jj hjl
                      have hjd : decide ((jj : Int) < 3) = true := by simp; omega
                      have hj0 : (0 : Int) ≤ (jj : Int) := by omega
                      have hj3 : (jj : Int) < 3 := by omega
                      have Hj := hid hjl
                      have Hsd := hid (fun (hp : 0 < t.time jj) => tok_side HO.out (by have := HA.out; omega) N1.out hn hjl hp)
                      have Hzz := hid (fun (hp : ¬ 0 < t.time jj) => (show ∀ i, n ≤ i → i < jj + 1 → t.time i ≤ 0 from fun i h1 h2 => by
                        by_cases h3 : i < jj
                        · exact HZ.out i h1 h3
                        · obtain rfl : i = jj := by omega
                          omega))
                      generalize t.time jj = v at *
                      by_cases hp : 0 < v
                      · have dp : decide (0 < v) = true := decide_eq_true hp
                        go_wp2
                        go_ret
                        refine RetX.mk (some 3) (Up.refl _) ?_ rfl
                        rw [H.out, Hdr.out]; exact fb_some (Hsd.out hp)
                      · have dp : decide (0 < v) = false := decide_eq_false hp
                        go_wp2
                        go_round
                        case rel => exact ⟨jj + 1, by omega, by have := Hj.out; omega, by go_num, Hzz.out hp⟩
                        case measure => have := Hj.out; simp [intOf]; omega
                    · obtain rfl : jj = 3 := by omega
                      have Hlt2 := Hlt.out
                      go_wp2
                      go_round
                      case rel =>
                        refine ⟨k + 1, by omega, by go_num, ?_⟩
                        show _ = _
                        rw [H.out, Hdr.out]; exact fb_none (tok_fine HO.out (by have := HA.out; omega) HZ.out)
                      case measure => simp [intOf]; omega
        · obtain rfl : k = f.length := by omega
          go_wp2
          go_ret
          refine RetX.mk none (Up.refl _) ?_ rfl
          rw [H.out, List.drop_length]; rfl
  · have hrr : fcheckF f sides = some 1 := by unfold fcheckF; rw [if_pos (by omega)]
    rw [hrr]
    have hor : decide (sides < 1) = true ∨ (decide (sides < 1) = false ∧ decide (3 < sides) = true) := by
      rcases Int.lt_or_le sides 1 with h1 | h1
      · exact .inl (decide_eq_true h1)
      · exact .inr ⟨decide_eq_false (by omega), decide_eq_true (by omega)⟩
    clear hrr hr hs
    rcases hor with d1 | ⟨d1, d2⟩
    all_goals
      go_enter Tryd.func38, Tryd.ntmps38
      go_wp2
      go_ret
      exact RetX.mk (some 1) (Up.refl _) rfl rfl
theorem rsm_any (n : Int) (w : World) :
    Calls Tryd.prog 116 #[.int .i64 n] w fun e w' => e = .returned (.bool (decide (Sm n))) ∧ w = w' := by
  rw [sm_dec]
  go_enter Tryd.func116, Tryd.ntmps116
  go_wp2
  all_goals go_ret
  all_goals simp [*]
  omega
theorem numbers_bad {x : List Int} {k : Nat} (hk : k < x.length) (h : ¬ Sm (x[k]?.getD 0)) : numbersF x = some 1 := by
  unfold numbersF
  rw [if_neg]
  intro ha
  apply h
  rw [List.getElem?_eq_getElem hk]
  exact ha _ (List.getElem_mem hk)
theorem numbers_num {x : List Int} {e : Nat} (h : numbersF x = some e) : e = 1 := by
  unfold numbersF at h
  split at h
  · cases h
  · injection h with h; exact h.symm
set_option maxHeartbeats 1000000 in
theorem rnumbers_any (A : Option Addr) (p : List Int) (c : Nat) (w : World) (hm : p.length ≤ 1000) (hr : RdI w A p) :
    Calls Tryd.prog 78 #[.slice A p.length c] w (RetX numV (numbersF p) w) := by
  have Hr := hid hr; clear hr
  go_enter Tryd.func78, Tryd.ntmps78
  go_wp2
  go_loop [3] (fun i => ∃ k : Nat, k ≤ p.length ∧ i = .int .i64 k ∧ Hid (∀ n ∈ p.take k, Sm n)) (fun i => p.length - (intOf i).toNat)
  case atStart => exact ⟨0, by omega, rfl, fun n hn => by simp at hn⟩
  case round =>
    obtain ⟨k, hk, rfl, H⟩ := hrel
    by_cases hlt : k < p.length
    · have hd : decide ((k : Int) < (p.length : Int)) = true := by simp; omega
      obtain ⟨b, o, rfl, hb, hc⟩ := Hr.out (by intro h; simp [h] at hlt)
      have hck := hc k hlt
      have Hb := hid (fun h => numbers_bad hlt h)
      have Hs := hid (show Sm (p[k]?.getD 0) → ∀ n ∈ p.take (k + 1), Sm n from fun hM n hn => by
        rw [List.take_succ_eq_append_getElem hlt] at hn
        rcases List.mem_append.1 hn with h | h
        · exact H.out n h
        · simp at h
          rw [h]
          rw [List.getElem?_eq_getElem hlt] at hM
          exact hM)
      clear hc
      generalize p[k]?.getD 0 = n at *
      by_cases hsm : Sm n
      · have Hd := hid (decide_eq_true hsm)
        have Hm := hid hsm; clear hsm
        go_wp2_with ((go_at_call 116; refine (rsm_any _ _).mono ?_; rintro e w' ⟨rfl, rfl⟩); rw [Hd.out])
        go_round
        case rel => exact ⟨k + 1, by omega, by go_num, Hs.out Hm.out⟩
        case measure => simp [intOf]; omega
      · have Hd := hid (decide_eq_false hsm)
        have Hm := hid hsm; clear hsm
        go_wp2_with ((go_at_call 116; refine (rsm_any _ _).mono ?_; rintro e w' ⟨rfl, rfl⟩); rw [Hd.out])
        go_ret
        exact RetX.mk (some 1) (Up.refl _) (Hb.out Hm.out) rfl
    · obtain rfl : k = p.length := by omega
      have hn : numbersF p = none := by
        unfold numbersF
        rw [if_pos]
        have := H.out
        rwa [List.take_length] at this
      have Hn := hid hn; clear hn
      go_wp2
      go_ret
      exact RetX.mk none (Up.refl _) Hn.out rfl
/-- What the terms come to, all of them. -/
def exSum (x : List Int) : List Tm → Int
  | [] => 0
  | t :: l => exactF t x + exSum x l
theorem pgSum {x : List Int} : ∀ {l : List Tm} (m : Int), (∀ t ∈ l, Sm t.by_) → pointG x m l = .ok (m + exSum x l)
  | [], m, _ => by simp [pointG, exSum]
  | t :: l, m, h => by
    rw [pointG_go (h t (by simp)), pgSum _ (fun s hs => h s (by simp [hs]))]
    simp only [exSum]
    congr 1
    omega
theorem pgBad {x : List Int} : ∀ {l : List Tm} (m : Int), ¬ (∀ t ∈ l, Sm t.by_) → pointG x m l = .error 4
  | [], m, h => absurd (fun t ht => by cases ht) h
  | t :: l, m, h => by
    by_cases ht : Sm t.by_
    · rw [pointG_go ht]
      exact pgBad _ (fun hl => h (fun s hs => by
        rcases List.mem_cons.1 hs with e | e
        · rw [e]; exact ht
        · exact hl s e))
    · exact pointG_no ht
set_option maxRecDepth 100000 in
set_option maxHeartbeats 4000000 in
theorem rexact_any (f : List Tm) (A B : Option Addr) (x : List Int) (c d : Nat) (w : World) (kk : Nat) (hf : RdT w A f) (hr : RdI w B x) (h3 : x.length ≤ 3) (hs : ∀ n ∈ x, Sm n) (hb : ∀ t ∈ f, Sm t.by_) (hc : firstBadT kk f = none) (hm : f.length ≤ 6) :
    Calls Tryd.prog 118 #[.slice A f.length c, .slice B x.length d] w fun e w' => e = .returned (.int .i64 (exSum x f)) ∧ w = w' := by
  have Hf := hid hf; have Hr := hid hr; have Hm := hid hm
  have hat := fun k (hk : k < f.length) => firstBadT_at hc (f[k]?.getD default) (by rw [List.getElem?_eq_getElem hk]; exact List.getElem_mem hk)
  have hby := fun k (hk : k < f.length) => hb (f[k]?.getD default) (by rw [List.getElem?_eq_getElem hk]; exact List.getElem_mem hk)
  have Hdeg := hid (fun k (hk : k < f.length) => deg_le (hat k hk) x h3)
  have H1 := hid (fun k (hk : k < f.length) => (tcheck_ok (hat k hk)).1)
  have Hb := hid (fun k (hk : k < f.length) => (show Bd (f[k]?.getD default).by_ 1 by have h := hby k hk; unfold Sm at h; unfold Bd; omega))
  have Hbd := hid (fun k (hk : k < f.length) => exact_bd (t := f[k]?.getD default) h3 hs (hby k hk) (hat k hk))
  have Hs := hid (fun k (hk : k < x.length) => hs (x[k]?.getD 0) (by rw [List.getElem?_eq_getElem hk]; exact List.getElem_mem hk))
  have H3 := hid h3
  clear hf hr h3 hs hc hm hat hby hb
  go_enter Tryd.func118, Tryd.ntmps118
  go_wp2
  go_loop [5, 6] (fun s i => ∃ (k : Nat) (m : Int), k ≤ f.length ∧ s = .int .i64 m ∧ i = .int .i64 k ∧ Hid (exSum x f = m + exSum x (f.drop k)) ∧ Hid (-(k * 160000000000000000 : Int) ≤ m ∧ m ≤ k * 160000000000000000)) (fun _ i => f.length - (intOf i).toNat)
  case atStart =>
    refine ⟨0, 0, by omega, rfl, rfl, ?_, ?_⟩
    · show _ = _; simp
    · show _ ∧ _; omega
  case round =>
    obtain ⟨k, m, hk, rfl, rfl, H, HM⟩ := hrel
    by_cases hlt : k < f.length
    · obtain ⟨b1, o1, rfl, l1, q0, qt⟩ := (Hf.out).time hlt
      have Hdr := hid (tdrop f k hlt)
      have Hlt := hid hlt
      have HD0 := hid (Hdeg.out k hlt); have HT := hid (H1.out k hlt); have HB0 := hid (Hb.out k hlt); have HBd := hid (Hbd.out k hlt)
      generalize f[k]?.getD default = t at *
      have Qt := hid qt
      have hdk : decide ((k : Int) < (f.length : Int)) = true := by simp; omega
      have hkm : (k : Int) < (f.length : Int) := by omega
      have hk0 : (0 : Int) ≤ (k : Int) := by omega
      have hk6 : (k : Int) < 6 := by have := Hm.out; omega
      clear qt hlt
      go_wp2
      go_loop [7, 8, 9] (fun n left i => ∃ (j u l : Nat) (y : Int), j ≤ x.length ∧ n = .int .i64 y ∧ left = .int .i64 l ∧ i = .int .i64 j ∧ Hid (u + l = 4) ∧ Hid (Bd y u) ∧ Hid (exactF t x = exactG t j y l (x.drop j)) ∧ Hid (degX t j (x.drop j) ≤ l)) (fun _ _ i => x.length - (intOf i).toNat)
      case atStart => exact ⟨0, 1, 3, t.by_, by omega, rfl, rfl, rfl, rfl, HB0.out, rfl, HD0.out⟩
      case round =>
        obtain ⟨j, u, l, y, hj, rfl, rfl, rfl, Hul, HB, HX, HD⟩ := hrel
        by_cases hjl : j < x.length
        · obtain ⟨b2, o2, rfl, lb, cc⟩ := (Hr.out).at (by omega)
          have j1 := cc j hjl
          have hsv := Hs.out j hjl
          have Hdx := hid (idrop x j hjl)
          have Hjl := hid hjl
          have hj3' : j < 3 := by have := H3.out; omega
          have ht := Qt.out j hj3'
          have hti := HT.out j
          obtain ⟨e, he⟩ : ∃ e : Nat, t.time j = (e : Int) := ⟨(t.time j).toNat, by omega⟩
          rw [he] at ht
          have he' : (t.time j).toNat = e := by omega
          have hdj : decide ((j : Int) < (x.length : Int)) = true := by simp; omega
          have hj0 : (0 : Int) ≤ (j : Int) := by omega
          have hj33 : (j : Int) < 3 := by omega
          have hjx : (j : Int) < (x.length : Int) := by omega
          generalize x[j]?.getD 0 = v at *
          have Hsv := hid hsv
          have HE := hid he'
          have HEl := hid (show e + degX t (j + 1) (x.drop (j + 1)) ≤ l by
            have := HD.out
            rw [Hdx.out] at this
            simp only [degX, he'] at this
            exact this)
          clear cc he he' hti hjl hsv hj3'
          go_wp2
          go_loop [7, 8, 10] (fun n left i => ∃ (jj : Nat) (z : Int) (r : Nat), jj ≤ e ∧ n = .int .i64 z ∧ left = .int .i64 r ∧ i = .int .i64 jj ∧ Hid (jj + r = l) ∧ Hid (z = y * v ^ jj) ∧ Hid (Bd z (u + jj))) (fun _ _ i => e - (intOf i).toNat)
          case atStart => exact ⟨0, y, l, by omega, rfl, rfl, rfl, by simp [Hid], by simp [Hid], HB.out⟩
          case round =>
            obtain ⟨jj, z, r, hjj, rfl, rfl, rfl, Hr1, Hy, Hbz⟩ := hrel
            by_cases hje : jj < e
            · have hdj2 : decide ((jj : Int) < (e : Int)) = true := by simp; omega
              have hb2 := (Hbz.out.mul Hsv.out)
              have Hb2 := hid hb2
              obtain ⟨hb3, hb4⟩ := hb2.big (by have := Hr1.out; have := HEl.out; have := Hul.out; omega)
              clear hb2
              have hr0 : (0 : Int) < r := by have := Hr1.out; have := HEl.out; omega
              have hr3 : (r : Int) ≤ 4 := by have := Hr1.out; have := HEl.out; have := Hul.out; omega
              have hj3 : (jj : Int) < 4 := by have := Hr1.out; have := HEl.out; have := Hul.out; omega
              go_wp2
              go_round
              case rel =>
                refine ⟨jj + 1, z * v, r - 1, by omega, ?_, ?_, by go_num, ?_, ?_, ?_⟩
                · rfl
                · congr 1; omega
                · have := Hr1.out; show _ = _; omega
                · show _ = _; rw [Hy.out, Int.pow_succ, Int.mul_assoc]
                · exact Hb2.out
              case measure => simp [intOf]; omega
            · obtain rfl : jj = e := by omega
              have hk9 := Hjl.out
              have hdj2 : decide ((jj : Int) < (jj : Int)) = false := by simp
              go_wp2
              go_round
              case rel =>
                have hrl : r = l - jj := by have := Hr1.out; omega
                refine ⟨j + 1, u + jj, r, z, by omega, rfl, rfl, by go_num, by have := Hr1.out; have := Hul.out; show _ = _; omega, Hbz.out, ?_, ?_⟩
                · show _ = _
                  rw [HX.out, Hdx.out, exactG_step HE.out (HT.out j).1 (by have := HEl.out; omega), Hy.out, hrl]
                · have := HEl.out
                  have := Hr1.out
                  show _ ≤ _
                  omega
              case measure => simp [intOf]; omega
        · obtain rfl : j = x.length := by omega
          have hfin : exactF t x = y * 1000 ^ l := by rw [HX.out, List.drop_length]; rfl
          have Hfin := hid hfin
          clear hfin
          go_wp2
          go_loop [7, 8] (fun n left => ∃ (jj : Nat) (z : Int), jj ≤ l ∧ n = .int .i64 z ∧ left = .int .i64 ((l - jj : Nat) : Int) ∧ Hid (z = y * 1000 ^ jj) ∧ Hid (Bd z (u + jj))) (fun _ left => (intOf left).toNat)
          case atStart => exact ⟨0, y, by omega, rfl, rfl, by simp [Hid], HB.out⟩
          case round =>
            obtain ⟨jj, z, hjj, rfl, rfl, Hy, Hbz⟩ := hrel
            by_cases hje : jj < l
            · have hdj2 : decide ((0 : Int) < ((l - jj : Nat) : Int)) = true := by simp; omega
              have hb2 := (Hbz.out.mul (show Sm 1000 by unfold Sm; omega))
              have Hb2 := hid hb2
              obtain ⟨hb3, hb4⟩ := hb2.big (by have := Hul.out; omega)
              clear hb2
              have hr0 : (0 : Int) < ((l - jj : Nat) : Int) := by omega
              have hr3 : ((l - jj : Nat) : Int) ≤ 4 := by have := Hul.out; omega
              have hsb : ((l - jj : Nat) : Int) - 1 = ((l - (jj + 1) : Nat) : Int) := by omega
              go_wp2
              go_round
              case rel =>
                refine ⟨jj + 1, z * 1000, by omega, rfl, ?_, ?_, ?_⟩
                · first | rfl | (rw [hsb]) | (congr 1; omega)
                · show _ = _; rw [Hy.out, Int.pow_succ, Int.mul_assoc]
                · exact Hb2.out
              case measure => simp [intOf]; omega
            · obtain rfl : jj = l := by omega
              have hz0 : ((jj - jj : Nat) : Int) = 0 := by simp
              rw [hz0]
              have Hz := hid (show exactF t x = z by rw [Hfin.out, Hy.out])
              have hzb := HBd.out
              rw [Hz.out] at hzb
              obtain ⟨z1, z2⟩ := hzb
              obtain ⟨m1, m2⟩ := HM.out
              have hb1 : -1120000000000000000 ≤ m + z := by omega
              have hb2 : m + z ≤ 1120000000000000000 := by omega
              have Hlt2 := Hlt.out
              go_wp2
              go_round
              case rel =>
                refine ⟨k + 1, m + z, by omega, rfl, by go_num, ?_, ?_⟩
                · show _ = _
                  rw [H.out, Hdr.out]
                  simp only [exSum]
                  rw [Hz.out]
                  omega
                · show _ ∧ _; omega
              case measure => simp [intOf]; omega
    · obtain rfl : k = f.length := by omega
      have Hx := hid (show exSum x f = m by rw [H.out, List.drop_length]; simp [exSum])
      go_wp2
      go_ret
      exact ⟨by rw [Hx.out]; rfl, rfl⟩
/-- A number with the number of a fault. -/
def inR : Except Nat Int → Value
  | .ok s => .tuple #[.int .i64 s, .int .i64 0]
  | .error n => .tuple #[.int .i64 0, .int .i64 n]
theorem inR_ok (s : Int) : inR (.ok s) = .tuple #[.int .i64 s, .int .i64 0] := rfl
theorem inR_error (n : Nat) : inR (.error n) = .tuple #[.int .i64 0, .int .i64 n] := rfl
attribute [go_sem] inR_ok inR_error
theorem exSum_bd {x : List Int} {kk : Nat} (h3 : x.length ≤ 3) (hs : ∀ n ∈ x, Sm n) : ∀ {f : List Tm}, (∀ t ∈ f, Sm t.by_) → firstBadT kk f = none → -(f.length * 160000000000000000 : Int) ≤ exSum x f ∧ exSum x f ≤ f.length * 160000000000000000
  | [], _, _ => by simp [exSum]
  | t :: f, hb, hc => by
    have h1 := exact_bd (t := t) (kk := kk) h3 hs (hb t (by simp)) (firstBadT_at hc t (by simp))
    have h2 := exSum_bd h3 hs (f := f) (fun s hs => hb s (by simp [hs])) (by
      unfold firstBadT at hc
      split at hc
      · cases hc
      · exact hc)
    simp only [exSum, List.length_cons]
    omega
set_option maxRecDepth 100000 in
set_option maxHeartbeats 4000000 in
theorem rpoint_any (f : List Tm) (A B : Option Addr) (x : List Int) (c d : Nat) (w : World) (kk : Nat) (hf : RdT w A f) (hr : RdI w B x) (h3 : x.length ≤ 3) (hs : ∀ n ∈ x, Sm n) (hc : firstBadT kk f = none) (hm : f.length ≤ 6) :
    Calls Tryd.prog 79 #[.slice A f.length c, .slice B x.length d] w (RetX inR (pointF f x) w) := by
  have Hf := hid hf; have Hr := hid hr; have Hm := hid hm
  have He := hid (fun (hb : ∀ t ∈ f, Sm t.by_) => rexact_any f A B x c d w kk hf hr h3 hs hb hc hm)
  have Hbd := hid (fun (hb : ∀ t ∈ f, Sm t.by_) => exSum_bd (f := f) h3 hs hb hc)
  clear hf hr h3 hs hc hm
  go_enter Tryd.func79, Tryd.ntmps79
  go_wp2
  go_loop [6] (fun i => ∃ k : Nat, k ≤ f.length ∧ i = .int .i64 k ∧ Hid (∀ t ∈ f.take k, Sm t.by_)) (fun i => f.length - (intOf i).toNat)
  case atStart => exact ⟨0, by omega, rfl, fun n hn => by simp at hn⟩
  case round =>
    obtain ⟨k, hk, rfl, H⟩ := hrel
    by_cases hlt : k < f.length
    · obtain ⟨b1, o1, rfl, l1, q0, qt⟩ := (Hf.out).time hlt
      have Hlt := hid hlt
      have hdk : decide ((k : Int) < (f.length : Int)) = true := by simp; omega
      have hkm : (k : Int) < (f.length : Int) := by omega
      have hk0 : (0 : Int) ≤ (k : Int) := by omega
      have hk6 : (k : Int) < 6 := by have := Hm.out; omega
      have Hbad := hid (show ¬ Sm (f[k]?.getD default).by_ → pointF f x = .error 4 from fun h => by
        unfold pointF
        rw [pgBad 0 (fun ha => h (by rw [List.getElem?_eq_getElem hlt]; exact ha _ (List.getElem_mem hlt)))])
      have Hst := hid (show Sm (f[k]?.getD default).by_ → ∀ t ∈ f.take (k + 1), Sm t.by_ from fun hM n hn => by
        rw [List.take_succ_eq_append_getElem hlt] at hn
        rcases List.mem_append.1 hn with h | h
        · exact H.out n h
        · simp at h
          rw [h]
          rw [List.getElem?_eq_getElem hlt] at hM
          exact hM)
      generalize f[k]?.getD default = t at *
      clear qt
      by_cases hsm : Sm t.by_
      · have Hd := hid (decide_eq_true hsm)
        have Hsm := hid hsm; clear hsm
        go_wp2_with ((go_at_call 116; refine (rsm_any _ _).mono ?_; rintro e w' ⟨rfl, rfl⟩); rw [Hd.out])
        go_round
        case rel => exact ⟨k + 1, by have := Hlt.out; omega, by go_num, Hst.out Hsm.out⟩
        case measure => have := Hlt.out; simp [intOf]; omega
      · have Hd := hid (decide_eq_false hsm)
        have Hsm := hid hsm; clear hsm
        go_wp2_with ((go_at_call 116; refine (rsm_any _ _).mono ?_; rintro e w' ⟨rfl, rfl⟩); rw [Hd.out])
        go_ret2
        exact RetX.mk (.error 4) (Up.refl _) (Hbad.out Hsm.out) rfl
    · obtain rfl : k = f.length := by omega
      have hall := H.out
      rw [List.take_length] at hall
      have hp : pointF f x = if M (dn (exSum x f) 1000000000) then .ok (dn (exSum x f) 1000000000) else .error 4 := by
        unfold pointF
        rw [pgSum 0 hall]
        simp
      have Hp := hid hp
      obtain ⟨q1, q2⟩ := Hbd.out hall
      have hb1 : -4000000000000000000 ≤ exSum x f := by have := Hm.out; omega
      have hb2 : exSum x f ≤ 4000000000000000000 := by have := Hm.out; omega
      have Hex := hid (He.out hall)
      have Hfl := hid (fun W => rfloor_any (exSum x f) 1000000000 W (by omega) hb1 hb2 (by omega))
      clear hp q1 q2 hall hb1 hb2
      cases hmm : mayB (dn (exSum x f) 1000000000) with
      | false =>
        have Hmm := hid hmm; clear hmm
        go_wp2_with (first
          | (go_at_call 118; refine (Hex.out).mono ?_; rintro e w' ⟨rfl, rfl⟩)
          | (go_at_call 117; refine (Hfl.out _).mono ?_; rintro e w' ⟨rfl, rfl⟩)
          | ((go_at_call 80; refine (rmay_any _ _).mono ?_; rintro e w' ⟨rfl, rfl⟩); rw [Hmm.out]))
        go_ret2
        refine RetX.mk (.error 4) (Up.refl _) ?_ rfl
        rw [Hp.out, if_neg (mayB_false.1 Hmm.out)]
      | true =>
        have Hmm := hid hmm; clear hmm
        go_wp2_with (first
          | (go_at_call 118; refine (Hex.out).mono ?_; rintro e w' ⟨rfl, rfl⟩)
          | (go_at_call 117; refine (Hfl.out _).mono ?_; rintro e w' ⟨rfl, rfl⟩)
          | ((go_at_call 80; refine (rmay_any _ _).mono ?_; rintro e w' ⟨rfl, rfl⟩); rw [Hmm.out]))
        go_ret2
        refine RetX.mk (.ok (dn (exSum x f) 1000000000)) (Up.refl _) ?_ rfl
        rw [Hp.out, if_pos (mayB_true.1 Hmm.out)]
end Go.Proofs.YteoomjenekkomaaDoor
