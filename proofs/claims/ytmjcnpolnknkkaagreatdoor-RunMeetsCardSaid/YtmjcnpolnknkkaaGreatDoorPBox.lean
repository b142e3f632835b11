/- The walks of package box that only read: Check, two, In, Within, Has. The walks of package box that only read: In, Within, Has. The walks of the reference's numbers: Floor, Ceil, Far0, Small. The walks of package spansame: Box. The walk of package spansame: Ints. Short slices whose cells are known. -/
import Derived.Test.YtmjcnpolnknkkaaGreatDoorPSpan
import Derived.Test.YtmjcnpolnknkkaaGreatDoorPBase
import Derived.LoopN
set_option linter.unusedVariables false
set_option linter.unusedSimpArgs false
namespace Go.Proofs.YtmjcnpolnknkkaaGreatDoor
open Go.RowKit

theorem RdS.at {w : World} {A : Option Addr} {l : List Sp} (h : RdS w A l) (hl : 0 < l.length) : ∃ b o, A = some ⟨b, o, none⟩ ∧ b < w.heap.size ∧ ∀ k, k < l.length → w.cell? ⟨b, o + k * 2, none⟩ = some (.int .i64 (l[k]?.getD ⟨0, 0⟩).lo) ∧ w.cell? ⟨b, o + k * 2 + 1, none⟩ = some (.int .i64 (l[k]?.getD ⟨0, 0⟩).hi) :=
  h (fun e => by simp [e] at hl)
end Go.Proofs.YtmjcnpolnknkkaaGreatDoor

namespace Go.Proofs.YtmjcnpolnknkkaaGreatDoor
open Go.RowKit

theorem RdI.at {w : World} {A : Option Addr} {l : List Int} (h : RdI w A l) (hl : 0 < l.length) : ∃ b o, A = some ⟨b, o, none⟩ ∧ b < w.heap.size ∧ ∀ k, k < l.length → w.cell? ⟨b, o + k, none⟩ = some (.int .i64 (l[k]?.getD 0)) :=
  h (fun e => by simp [e] at hl)
end Go.Proofs.YtmjcnpolnknkkaaGreatDoor

namespace Go.Proofs.YtmjcnpolnknkkaaGreatDoor
open Go.RowKit

theorem rfloor_any (n k : Int) (w : World) (hk : 0 < k) (h1 : -4000000000000000000 ≤ n) (h2 : n ≤ 4000000000000000000) (h3 : k ≤ 4000000000000000000) :
    Calls Tryz.prog 37 #[.int .i64 n, .int .i64 k] w fun e w' => e = .returned (.int .i64 (dn n k)) ∧ w = w' := by
  obtain ⟨_, _⟩ := tdiv_bd n k hk h1 h2
  go_enter Tryz.func37, Tryz.ntmps37
  go_wp2
  all_goals go_ret
  · exact ⟨by rw [floor_tdiv n k hk, if_pos (by assumption)]; rfl, rfl⟩
  · exact ⟨by rw [floor_tdiv n k hk, if_neg (by omega)]; rfl, rfl⟩
theorem ceil_tdiv (n k : Int) (hk : 0 < k) : up n k = if 0 < Int.tmod n k then Int.tdiv n k + 1 else Int.tdiv n k := by
  have h := floor_tdiv (-n) k hk
  unfold dn at h
  unfold up
  rw [h, Int.neg_tmod, Int.neg_tdiv]
  split <;> split <;> omega
theorem rceil_any (n k : Int) (w : World) (hk : 0 < k) (h1 : -4000000000000000000 ≤ n) (h2 : n ≤ 4000000000000000000) (h3 : k ≤ 4000000000000000000) :
    Calls Tryz.prog 38 #[.int .i64 n, .int .i64 k] w fun e w' => e = .returned (.int .i64 (up n k)) ∧ w = w' := by
  obtain ⟨_, _⟩ := tdiv_bd n k hk h1 h2
  go_enter Tryz.func38, Tryz.ntmps38
  go_wp2
  all_goals go_ret
  · exact ⟨by rw [ceil_tdiv n k hk, if_pos (by assumption)]; rfl, rfl⟩
  · exact ⟨by rw [ceil_tdiv n k hk, if_neg (by omega)]; rfl, rfl⟩
/-- Is it so small? -/
def Lit5 (n : Int) : Prop := -5000 ≤ n ∧ n ≤ 5000
instance (n : Int) : Decidable (Lit5 n) := by unfold Lit5; infer_instance
end Go.Proofs.YtmjcnpolnknkkaaGreatDoor

namespace Go.Proofs.YtmjcnpolnknkkaaGreatDoor
open Go.RowKit

end Go.Proofs.YtmjcnpolnknkkaaGreatDoor

namespace Go.Proofs.YtmjcnpolnknkkaaGreatDoor
open Go.RowKit

end Go.Proofs.YtmjcnpolnknkkaaGreatDoor

namespace Go.Proofs.YtmjcnpolnknkkaaGreatDoor
open Go.RowKit

end Go.Proofs.YtmjcnpolnknkkaaGreatDoor
