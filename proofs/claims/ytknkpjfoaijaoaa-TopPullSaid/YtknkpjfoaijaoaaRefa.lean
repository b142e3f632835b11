/- The walks of the reference's numbers: Floor, Ceil, Far0, Small. -/
import Derived.Test.YtknkpjfoaijaoaaBoxb
set_option linter.unusedVariables false
set_option linter.unusedSimpArgs false
namespace Go.Proofs.Ytknkpjfoaijaoaa
open Go.RowKit

def far0F (n : Int) : Int := if n < 0 then -n else n
theorem rfar0_any (n : Int) (w : World) (h1 : -9000000000000000000 ≤ n) (h2 : n ≤ 9000000000000000000) :
    Calls Try.prog 15 #[.int .i64 n] w fun e w' => e = .returned (.int .i64 (far0F n)) ∧ w = w' := by
  go_enter Try.func15, Try.ntmps15
  go_wp2
  all_goals go_ret
  · exact ⟨by unfold far0F; rw [if_pos (by assumption)]; rfl, rfl⟩
  · exact ⟨by unfold far0F; rw [if_neg (by omega)]; rfl, rfl⟩
/-- Is it so small? -/
def Lit5 (n : Int) : Prop := -5000 ≤ n ∧ n ≤ 5000
instance (n : Int) : Decidable (Lit5 n) := by unfold Lit5; infer_instance
def smallB (p : List Int) (n : Int) : Bool := decide (1 ≤ p.length ∧ p.length ≤ 5 ∧ Lit5 n ∧ ∀ c ∈ p, Lit5 c)
theorem smallB_true {p : List Int} {n : Int} (h : smallB p n = true) : 0 < p.length ∧ p.length ≤ 5 ∧ Lit5 n ∧ ∀ c ∈ p, Lit5 c := by
  unfold smallB at h
  have := of_decide_eq_true h
  exact ⟨by omega, this.2.1, this.2.2⟩
theorem all5_split {p : List Int} {k : Nat} (hk : k < p.length) (h : ∀ c ∈ p.take k, Lit5 c) : (∀ c ∈ p.take (k + 1), Lit5 c) ↔ Lit5 (p[k]?.getD 0) := by
  rw [List.take_succ_eq_append_getElem hk]
  rw [show p[k]?.getD 0 = p[k] by simp [hk]]
  constructor
  · intro hh; exact hh _ (List.mem_append_right _ (List.mem_singleton.2 rfl))
  · intro hh c hc
    rcases List.mem_append.1 hc with e | e
    · exact h c e
    · simp at e; rw [e]; exact hh
end Go.Proofs.Ytknkpjfoaijaoaa
