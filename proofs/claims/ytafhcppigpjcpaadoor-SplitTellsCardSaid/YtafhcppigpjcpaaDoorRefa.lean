/- The walks of the reference's numbers: Floor, Ceil, Far0, Small. -/
import Derived.Test.YtafhcppigpjcpaaDoorBoxb
set_option linter.unusedVariables false
set_option linter.unusedSimpArgs false
namespace Go.Proofs.YtafhcppigpjcpaaDoor
open Go.RowKit

theorem rfloor_any (n k : Int) (w : World) (hk : 0 < k) (h1 : -4000000000000000000 ≤ n) (h2 : n ≤ 4000000000000000000) (h3 : k ≤ 4000000000000000000) :
    Calls Tryd.prog 90 #[.int .i64 n, .int .i64 k] w fun e w' => e = .returned (.int .i64 (dn n k)) ∧ w = w' := by
  obtain ⟨_, _⟩ := tdiv_bd n k hk h1 h2
  go_enter Tryd.func90, Tryd.ntmps90
  go_wp2
  all_goals go_ret
  · exact ⟨by rw [floor_tdiv n k hk, if_pos (by assumption)]; rfl, rfl⟩
  · exact ⟨by rw [floor_tdiv n k hk, if_neg (by omega)]; rfl, rfl⟩
theorem ceil_tdiv (n k : Int) (hk : 0 < k) : up n k = if 0 < Int.tmod n k then Int.tdiv n k + 1 else Int.tdiv n k := by
  have h := floor_tdiv (-n) k hk
  unfold dn at h
  unfold up
  rw [h, Int.neg_tmod, Int.neg_tdiv]
  split <;> split <;> omega
theorem rceil_any (n k : Int) (w : World) (hk : 0 < k) (h1 : -4000000000000000000 ≤ n) (h2 : n ≤ 4000000000000000000) (h3 : k ≤ 4000000000000000000) :
    Calls Tryd.prog 91 #[.int .i64 n, .int .i64 k] w fun e w' => e = .returned (.int .i64 (up n k)) ∧ w = w' := by
  obtain ⟨_, _⟩ := tdiv_bd n k hk h1 h2
  go_enter Tryd.func91, Tryd.ntmps91
  go_wp2
  all_goals go_ret
  · exact ⟨by rw [ceil_tdiv n k hk, if_pos (by assumption)]; rfl, rfl⟩
  · exact ⟨by rw [ceil_tdiv n k hk, if_neg (by omega)]; rfl, rfl⟩
def far0F (n : Int) : Int := if n < 0 then -n else n
/-- Is it so small? -/
def Lit5 (n : Int) : Prop := -5000 ≤ n ∧ n ≤ 5000
instance (n : Int) : Decidable (Lit5 n) := by unfold Lit5; infer_instance
def smallB (p : List Int) (n : Int) : Bool := decide (1 ≤ p.length ∧ p.length ≤ 5 ∧ Lit5 n ∧ ∀ c ∈ p, Lit5 c)
theorem smallB_true {p : List Int} {n : Int} (h : smallB p n = true) : 0 < p.length ∧ p.length ≤ 5 ∧ Lit5 n ∧ ∀ c ∈ p, Lit5 c := by
  unfold smallB at h
  have := of_decide_eq_true h
  exact ⟨by omega, this.2.1, this.2.2⟩
theorem all5_split {p : List Int} {k : Nat} (hk : k < p.length) (h : ∀ c ∈ p.take k, Lit5 c) : (∀ c ∈ p.take (k + 1), Lit5 c) ↔ Lit5 (p[k]?.getD 0) := by
  rw [List.take_succ_eq_append_getElem hk]
  rw [show p[k]?.getD 0 = p[k] by simp [hk]]
  constructor
  · intro hh; exact hh _ (List.mem_append_right _ (List.mem_singleton.2 rfl))
  · intro hh c hc
    rcases List.mem_append.1 hc with e | e
    · exact h c e
    · simp at e; rw [e]; exact hh
set_option maxHeartbeats 1000000 in
theorem rsmall_any (A : Option Addr) (p : List Int) (c : Nat) (n : Int) (w : World) (hr : RdI w A p) (hm : p.length ≤ 9223372036854775807) :
    Calls Tryd.prog 42 #[.slice A p.length c, .int .i64 n] w (RetX boolV (smallB p n) w) := by
  have Hm := hid hm; clear hm
  by_cases hg : 1 ≤ p.length ∧ p.length ≤ 5 ∧ Lit5 n
  · obtain ⟨g1, g2, g3, g4⟩ := hg
    have e1 : decide ((p.length : Int) < 1) = false := by simp; omega
    have e2 : decide ((5 : Int) < (p.length : Int)) = false := by simp; omega
    have e3 : decide (n < (-5000 : Int)) = false := by simp; omega
    have e4 : decide ((5000 : Int) < n) = false := by simp; omega
    have H0 := hid (show 1 ≤ p.length ∧ p.length ≤ 5 ∧ Lit5 n from ⟨g1, g2, g3, g4⟩)
    have Hr := hid hr; clear hr
    go_enter Tryd.func42, Tryd.ntmps42
    go_wp2
    go_loop [5] (fun i => ∃ k : Nat, k ≤ p.length ∧ i = .int .i64 k ∧ Hid (∀ c ∈ p.take k, Lit5 c)) (fun i => p.length - (intOf i).toNat)
    case atStart => exact ⟨0, by omega, rfl, fun c hc => by simp at hc⟩
    case round =>
      obtain ⟨k, hk, rfl, H⟩ := hrel
      by_cases hlt : k < p.length
      · obtain ⟨b1, o1, rfl, l1, c1⟩ := (Hr.out).at (by omega)
        have k1 := c1 k hlt
        have Hsp := hid (all5_split hlt H.out)
        generalize p[k]?.getD 0 = m at *
        clear c1
        have hdk : decide ((k : Int) < (p.length : Int)) = true := by simp; omega
        go_wp2
        all_goals
          first
            | (go_ret; refine RetX.mk false ?_ ?_ rfl; (rotate_left; (focus (simp only [smallB]; rw [decide_eq_false]; intro hh; have := Hsp.out.1 (fun c hc => hh.2.2.2 c (List.mem_of_mem_take hc)); unfold Lit5 at this; omega))); exact Up.refl _)
            | skip
        go_round
        case rel => exact ⟨k + 1, by omega, by go_num, Hsp.out.2 ⟨by omega, by omega⟩⟩
        case measure => simp [intOf]; omega
      · obtain rfl : k = p.length := by omega
        go_wp2
        go_ret
        refine RetX.mk true (Up.refl _) ?_ rfl
        unfold smallB
        rw [decide_eq_true]
        have := H.out
        rw [List.take_length] at this
        exact ⟨H0.out.1, H0.out.2.1, H0.out.2.2, this⟩
  · have hF : smallB p n = false := by
      unfold smallB
      rw [decide_eq_false]
      exact fun h => hg ⟨h.1, h.2.1, h.2.2.1⟩
    rw [hF]
    clear hF
    have h4 : p.length < 1 ∨ 5 < p.length ∨ n < -5000 ∨ 5000 < n := by unfold Lit5 at hg; omega
    clear hg hr
    by_cases q1 : p.length < 1
    · have e1 : decide ((p.length : Int) < 1) = true := by simp; omega
      clear h4
      go_enter Tryd.func42, Tryd.ntmps42
      go_wp2
      go_ret
      exact RetX.mk false (Up.refl _) rfl rfl
    · have e1 : decide ((p.length : Int) < 1) = false := by simp; omega
      by_cases q2 : 5 < p.length
      · have e2 : decide ((5 : Int) < (p.length : Int)) = true := by simp; omega
        clear h4
        go_enter Tryd.func42, Tryd.ntmps42
        go_wp2
        go_ret
        exact RetX.mk false (Up.refl _) rfl rfl
      · have e2 : decide ((5 : Int) < (p.length : Int)) = false := by simp; omega
        by_cases q3 : n < -5000
        · have e3 : decide (n < (-5000 : Int)) = true := by simpa using q3
          clear h4
          go_enter Tryd.func42, Tryd.ntmps42
          go_wp2
          go_ret
          exact RetX.mk false (Up.refl _) rfl rfl
        · have e3 : decide (n < (-5000 : Int)) = false := by simpa using q3
          have e4 : decide ((5000 : Int) < n) = true := by simp; omega
          clear h4
          go_enter Tryd.func42, Tryd.ntmps42
          go_wp2
          go_ret
          exact RetX.mk false (Up.refl _) rfl rfl
end Go.Proofs.YtafhcppigpjcpaaDoor
