/- The walks of slices.ContainsFunc at ints, and of package poly's Check and Both. -/
import Derived.Test.YtafhcppigpjcpaaDoorPowerb
set_option linter.unusedVariables false
set_option linter.unusedSimpArgs false
namespace Go.Proofs.YtafhcppigpjcpaaDoor
open Go.RowKit

def IdxP (g : Int → Bool) (l : List Int) (w : World) (e : Ending) (w' : World) : Prop := ∃ i : Int, e = .returned (.int .i64 i) ∧ (0 ≤ i ↔ l.any g = true) ∧ w = w'
theorem any_take (g : Int → Bool) (l : List Int) (k : Nat) (h : k < l.length) : (l.take (k + 1)).any g = ((l.take k).any g || g (l[k]?.getD 0)) := by
  rw [take_snoc' l k h]; simp
theorem any_yes (g : Int → Bool) (l : List Int) (k : Nat) (h : k < l.length) (hg : g (l[k]?.getD 0) = true) : l.any g = true := by
  rw [List.any_eq_true]
  refine ⟨l[k], List.getElem_mem h, ?_⟩
  simpa [h] using hg
theorem idx_neg {i : Int} {b : Bool} (h : 0 ≤ i ↔ b = true) (hb : b = false) : i < 0 := by
  rcases Int.lt_or_le i 0 with h1 | h1
  · exact h1
  · rw [h.1 h1] at hb; cases hb
set_option maxHeartbeats 800000 in
theorem indexFunc_any (K : Nat) (hen : ∀ args w, (callFunc K args).run Tryd.prog w = .ok (.enter K args) w) (g : Int → Bool) (A : Option Addr) (l : List Int) (c : Nat) (w : World) (hl : l.length ≤ 1000) (hr : RdI w A l)
    (hg : ∀ n W, n ∈ l → Calls Tryd.prog K #[.int .i64 n] W fun e W' => e = .returned (.bool (g n)) ∧ W = W') :
    Calls Tryd.prog 143 #[.slice A l.length c, .func (.func K) #[] #[]] w (IdxP g l w) := by
  have Hg := hid hg; have Hr := hid hr; clear hg hr
  go_enter Tryd.func143, Tryd.ntmps143
  go_wp2
  go_loop [8] (fun i => ∃ k : Nat, k ≤ l.length ∧ i = .int .i64 k ∧ Hid ((l.take k).any g = false)) (fun i => l.length - (intOf i).toNat)
  case atStart => exact ⟨0, by omega, rfl, by simp [Hid]⟩
  case round =>
    obtain ⟨k, hk, rfl, H⟩ := hrel
    by_cases hlt : k < l.length
    · have hd : decide ((k : Int) < (l.length : Int)) = true := by simp; omega
      obtain ⟨b, o, rfl, hb, hc⟩ := Hr.out (by intro h; simp [h] at hlt)
      have hck := hc k hlt
      have hmem : l[k]?.getD 0 ∈ l := by simp [hlt]
      have Hm := hid hmem
      clear hc hmem
      generalize hn : l[k]?.getD 0 = n at *
      have Hn := hid hn; clear hn
      cases hgn : g n with
      | true =>
        have Hgn := hid hgn; clear hgn
        go_wp2_with (refine (Hg.out n _ Hm.out).mono ?_; rintro e w' ⟨rfl, rfl⟩; rw [Hgn.out])
        go_ret
        exact ⟨k, rfl, ⟨fun _ => any_yes g l k hlt (by rw [Hn.out, Hgn.out]), fun _ => by omega⟩, rfl⟩
      | false =>
        have Hgn := hid hgn; clear hgn
        go_wp2_with (refine (Hg.out n _ Hm.out).mono ?_; rintro e w' ⟨rfl, rfl⟩; rw [Hgn.out])
        go_round
        case rel => exact ⟨k + 1, by omega, by go_num, by rw [any_take g l k hlt, H.out, Hn.out, Hgn.out]; rfl⟩
        case measure => simp [intOf]; omega
    · obtain rfl : k = l.length := by omega
      go_wp2
      go_ret
      exact ⟨-1, rfl, ⟨fun h => absurd h (by omega), fun h => by have := H.out; rw [List.take_length] at this; rw [this] at h; cases h⟩, rfl⟩
theorem containsFunc_any (K : Nat) (hen : ∀ args w, (callFunc K args).run Tryd.prog w = .ok (.enter K args) w) (g : Int → Bool) (A : Option Addr) (l : List Int) (c : Nat) (w : World) (hl : l.length ≤ 1000) (hr : RdI w A l)
    (hg : ∀ n W, n ∈ l → Calls Tryd.prog K #[.int .i64 n] W fun e W' => e = .returned (.bool (g n)) ∧ W = W') :
    Calls Tryd.prog 103 #[.slice A l.length c, .func (.func K) #[] #[]] w fun e w' => e = .returned (.bool (l.any g)) ∧ w = w' := by
  have Hi := hid (fun W hW => indexFunc_any K hen g A l c W hl hW hg)
  clear hg
  cases ha : l.any g with
  | true =>
    have Ha := hid ha; clear ha
    go_enter Tryd.func103, Tryd.ntmps103
    go_wp2_with (go_at_call 143; refine (Hi.out _ hr).mono ?_; rintro e w' ⟨i, rfl, hi, rfl⟩; have hi1 := hi.2 Ha.out; clear hi)
    go_ret
    exact ⟨rfl, rfl⟩
  | false =>
    have Ha := hid ha; clear ha
    go_enter Tryd.func103, Tryd.ntmps103
    go_wp2_with (go_at_call 143; refine (Hi.out _ hr).mono ?_; rintro e w' ⟨i, rfl, hi, rfl⟩; have hi1 := decide_eq_false (Int.not_le.2 (idx_neg hi Ha.out)); clear hi)
    go_ret
    exact ⟨rfl, rfl⟩

theorem enPcheck1 : ∀ args w, (callFunc 104 args).run Tryd.prog w = .ok (.enter 104 args) w := enters_of Tryd.func104 (by kernel_rfl) rfl
theorem pcheck1_any (n : Int) (w : World) :
    Calls Tryd.prog 104 #[.int .i64 n] w fun e w' => e = .returned (.bool (!mayB n)) ∧ w = w' := by
  go_enter Tryd.func104, Tryd.ntmps104
  go_wp2_with (go_at_call 95; refine (may_any _ _).mono ?_; rintro e w' ⟨rfl, rfl⟩)
  go_ret
  exact ⟨rfl, rfl⟩
theorem pcheck_all {p : List Int} (h0 : 0 < p.length) (h5 : p.length ≤ 5) : pcheckF p = if p.any (fun n => !mayB n) = true then some 1 else none := by
  unfold pcheckF
  rw [if_neg (by omega), if_neg (by omega)]
  by_cases h : ∀ n ∈ p, M n
  · rw [if_pos h, if_neg]
    simp only [List.any_eq_true, not_exists]
    rintro n ⟨hn, hm⟩
    simp [mayB_true.2 (h n hn)] at hm
  · rw [if_neg h, if_pos]
    simp only [List.any_eq_true]
    apply Classical.byContradiction
    intro hc
    apply h
    intro n hn
    apply mayB_true.1
    cases hm : mayB n with
    | true => rfl
    | false => exact absurd ⟨n, hn, by simp [hm]⟩ hc
theorem pcheck_any (A : Option Addr) (p : List Int) (c : Nat) (w : World) (hr : RdI w A p) :
    Calls Tryd.prog 44 #[.slice A p.length c] w (RetX errV (pcheckF p) w) := by
  by_cases h0 : p.length = 0
  · have hrr : pcheckF p = some 5 := by simp [pcheckF, h0]
    rw [hrr, h0]
    clear hrr
    go_enter Tryd.func44, Tryd.ntmps44
    go_wp2
    go_ret
    exact RetX.mk (some 5) (Up.refl _) rfl rfl
  · by_cases h5 : 5 < p.length
    · have hrr : pcheckF p = some 4 := by simp [pcheckF, h0, h5]
      rw [hrr]
      clear hrr
      have hd : ((p.length : Int) == 0) = false := beq_eq_false_iff_ne.2 (by omega)
      go_enter Tryd.func44, Tryd.ntmps44
      go_wp2
      go_ret
      exact RetX.mk (some 4) (Up.refl _) rfl rfl
    · have hall := pcheck_all (p := p) (by omega) (by omega)
      have hd : ((p.length : Int) == 0) = false := beq_eq_false_iff_ne.2 (by omega)
      have _ : p.length ≤ 5 := by omega
      have Hc := hid (fun W hW => containsFunc_any 104 enPcheck1 (fun n => !mayB n) A p c W (by omega) hW (fun n W _ => pcheck1_any n W))
      clear h0 h5
      cases ha : p.any (fun n => !mayB n) with
      | true =>
        rw [ha] at hall
        rw [hall]
        have Ha := hid ha; clear ha hall
        go_enter Tryd.func44, Tryd.ntmps44
        go_wp2_with (go_at_call 103; refine (Hc.out _ hr).mono ?_; rintro e w' ⟨rfl, rfl⟩; rw [Ha.out])
        go_ret
        exact RetX.mk (some 1) (Up.refl _) rfl rfl
      | false =>
        rw [ha] at hall
        rw [hall]
        have Ha := hid ha; clear ha hall
        go_enter Tryd.func44, Tryd.ntmps44
        go_wp2_with (go_at_call 103; refine (Hc.out _ hr).mono ?_; rintro e w' ⟨rfl, rfl⟩; rw [Ha.out])
        go_ret
        exact RetX.mk none (Up.refl _) rfl rfl
theorem pboth_any (A : Option Addr) (p : List Int) (c : Nat) (lo hi : Int) (w : World) (hr : RdI w A p) :
    Calls Tryd.prog 105 #[.slice A p.length c, .agg #[.int .i64 lo, .int .i64 hi]] w (RetX errV (pbothF p ⟨lo, hi⟩) w) := by
  have Hr := hid hr; clear hr
  cases ha : pcheckF p with
  | some n =>
    have hrr : pbothF p ⟨lo, hi⟩ = some n := by simp [pbothF, ha]
    rw [hrr]
    have Ha := hid ha; clear ha hrr
    go_enter Tryd.func105, Tryd.ntmps105
    go_wp2_with ((go_at_call 44; refine (pcheck_any _ _ _ _ (Hr.out.up (by (repeat (first | (with_reducible exact Up.refl _) | (with_reducible assumption) | (with_reducible refine Up.alloc ?_ _) | (with_reducible refine Up.drew ?_) | ((with_reducible refine Up.set ?_ ?_ _); rotate_left; focus (first | omega | (simp; done) | (simp; omega))) | (with_reducible refine Up.drewN ?_ _) | (with_reducible refine Up.call ?_ (by with_reducible assumption))))))).mono ?_; rintro e w1 ⟨x, hx, rfl, hb1⟩; rw [Ha.out] at hx; subst hx) <;> (obtain ⟨hc1, hf1⟩ := bcell hb1; have _ : w.heap.size < w1.heap.size := (by have hle := Up.le hb1; first | omega | (simp at hle; omega) | (simp at hle; done))))
    go_ret
    refine RetX.mk (some n) ?_ rfl rfl
    (repeat (first | (with_reducible exact Up.refl _) | (with_reducible assumption) | (with_reducible refine Up.alloc ?_ _) | (with_reducible refine Up.drew ?_) | ((with_reducible refine Up.set ?_ ?_ _); rotate_left; focus (first | omega | (simp; done) | (simp; omega))) | (with_reducible refine Up.drewN ?_ _) | (with_reducible refine Up.call ?_ (by with_reducible assumption))))
  | none =>
    have hrr : pbothF p ⟨lo, hi⟩ = checkF ⟨lo, hi⟩ := by simp [pbothF, ha]
    rw [hrr]
    have Ha := hid ha; clear ha hrr
    go_enter Tryd.func105, Tryd.ntmps105
    go_wp2_with (first
                        | ((go_at_call 44; refine (pcheck_any _ _ _ _ (Hr.out.up (by (repeat (first | (with_reducible exact Up.refl _) | (with_reducible assumption) | (with_reducible refine Up.alloc ?_ _) | (with_reducible refine Up.drew ?_) | ((with_reducible refine Up.set ?_ ?_ _); rotate_left; focus (first | omega | (simp; done) | (simp; omega))) | (with_reducible refine Up.drewN ?_ _) | (with_reducible refine Up.call ?_ (by with_reducible assumption))))))).mono ?_; rintro e w1 ⟨x, hx, rfl, hb1⟩; rw [Ha.out] at hx; subst hx) <;> (obtain ⟨hc1, hf1⟩ := bcell hb1; have _ : w.heap.size < w1.heap.size := (by have hle := Up.le hb1; first | omega | (simp at hle; omega) | (simp at hle; done))))
                        | ((go_at_call 26; refine (check_any _ _ _).mono ?_; rintro e w2 ⟨x, hx, rfl, hb2⟩) <;> (obtain ⟨hc2, hf2⟩ := bcell hb2)))
    all_goals
      go_ret
      refine RetX.mk x ?_ hx rfl
      (repeat (first | (with_reducible exact Up.refl _) | (with_reducible assumption) | (with_reducible refine Up.alloc ?_ _) | (with_reducible refine Up.drew ?_) | ((with_reducible refine Up.set ?_ ?_ _); rotate_left; focus (first | omega | (simp; done) | (simp; omega))) | (with_reducible refine Up.drewN ?_ _) | (with_reducible refine Up.call ?_ (by with_reducible assumption))))
end Go.Proofs.YtafhcppigpjcpaaDoor
