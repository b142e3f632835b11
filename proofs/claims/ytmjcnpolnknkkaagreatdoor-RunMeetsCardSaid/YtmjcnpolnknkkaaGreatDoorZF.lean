/- The walks of package form: term, Check. The walk of form.Check. The walk of form.one. The walks of form.Over, Range. The walks of form.small, Numbers, exact, Point, At. The walks of box.Common, Hull, Meet. The walks of package step. The walk of step.Next. -/
import Derived.Test.YtmjcnpolnknkkaaGreatDoorPBase
import Derived.Test.YtmjcnpolnknkkaaGreatDoorPPower
import Derived.LoopN
import Derived.Test.YtmjcnpolnknkkaaGreatDoorPBox
import Derived.Test.YtmjcnpolnknkkaaGreatDoorPPolyb
import Derived.Test.YtmjcnpolnknkkaaGreatDoorPHas
import Derived.Deep.RegionWith
import Derived.Test.YtmjcnpolnknkkaaGreatDoorPOwnS
import Derived.Deep.DeepCutAuto
import Derived.Test.YtmjcnpolnknkkaaGreatDoorPOwnk
set_option linter.unusedVariables false
set_option linter.unusedSimpArgs false
namespace Go.Proofs.YtmjcnpolnknkkaaGreatDoor
open Go.RowKit

theorem Tryz.infoInt3 : (Tryz.prog.info? 3).map (fun i => (i.zero, i.size, i.bytes)) = some (some (.int .i64 0), 1, 8) := by kernel_rfl
theorem Tryz.idx0 (a b c : Int) (w : World) : (Instr.index 163 (.agg #[.int .i64 a, .int .i64 b, .int .i64 c]) (.int .i64 0)).run Tryz.prog w = .ok (.int .i64 a) w := by
  obtain ⟨i0, hi0, hz0, hz1, hz2⟩ := info_parts Tryz.infoInt3
  simp [Instr.index, run_underlying Tryz.underlying163, asIntOf, go_sem, part, sizeOf, typeInfo, hi0, hz1]
theorem Tryz.idx1 (a b c : Int) (w : World) : (Instr.index 163 (.agg #[.int .i64 a, .int .i64 b, .int .i64 c]) (.int .i64 1)).run Tryz.prog w = .ok (.int .i64 b) w := by
  obtain ⟨i0, hi0, hz0, hz1, hz2⟩ := info_parts Tryz.infoInt3
  simp [Instr.index, run_underlying Tryz.underlying163, asIntOf, go_sem, part, sizeOf, typeInfo, hi0, hz1]
theorem Tryz.idx2 (a b c : Int) (w : World) : (Instr.index 163 (.agg #[.int .i64 a, .int .i64 b, .int .i64 c]) (.int .i64 2)).run Tryz.prog w = .ok (.int .i64 c) w := by
  obtain ⟨i0, hi0, hz0, hz1, hz2⟩ := info_parts Tryz.infoInt3
  simp [Instr.index, run_underlying Tryz.underlying163, asIntOf, go_sem, part, sizeOf, typeInfo, hi0, hz1]
attribute [go_sem] Tryz.idx0 Tryz.idx1 Tryz.idx2
end Go.Proofs.YtmjcnpolnknkkaaGreatDoor

namespace Go.Proofs.YtmjcnpolnknkkaaGreatDoor
open Go.RowKit

end Go.Proofs.YtmjcnpolnknkkaaGreatDoor

set_option linter.unusedVariables false
set_option linter.unusedSimpArgs false
namespace Go.Proofs.YtmjcnpolnknkkaaGreatDoor
open Go.RowKit

end Go.Proofs.YtmjcnpolnknkkaaGreatDoor

set_option linter.unusedVariables false
set_option linter.unusedSimpArgs false
namespace Go.Proofs.YtmjcnpolnknkkaaGreatDoor
open Go.RowKit

end Go.Proofs.YtmjcnpolnknkkaaGreatDoor

set_option linter.unusedVariables false
set_option linter.unusedSimpArgs false
namespace Go.Proofs.YtmjcnpolnknkkaaGreatDoor
open Go.RowKit

/-- So many factors of 20000 at the most. -/
def Bd (n : Int) (u : Nat) : Prop := -(20000 ^ u : Int) ≤ n ∧ n ≤ 20000 ^ u
theorem Bd.mul {n v : Int} {u : Nat} (h : Bd n u) (hv : Sm v) : Bd (n * v) (u + 1) := by
  unfold Bd at *
  unfold Sm at hv
  rw [Int.pow_succ]
  have h1 : (n * v).natAbs ≤ (20000 ^ u : Int).natAbs * 20000 := by
    rw [Int.natAbs_mul]
    exact Nat.mul_le_mul (by omega) (by omega)
  have h2 : 0 ≤ (20000 ^ u : Int) := Int.pow_nonneg (by omega)
  omega
theorem Bd.pow {n v : Int} {u : Nat} (h : Bd n u) (hv : Sm v) : ∀ e : Nat, Bd (n * v ^ e) (u + e)
  | 0 => by simpa using h
  | e + 1 => by
    have := (Bd.pow h hv e).mul hv
    rw [Int.pow_succ, ← Int.mul_assoc]
    exact this
end Go.Proofs.YtmjcnpolnknkkaaGreatDoor

set_option linter.unusedVariables false
set_option linter.unusedSimpArgs false
namespace Go.Proofs.YtmjcnpolnknkkaaGreatDoor
open Go.RowKit

end Go.Proofs.YtmjcnpolnknkkaaGreatDoor

set_option linter.unusedVariables false
set_option linter.unusedSimpArgs false
namespace Go.Proofs.YtmjcnpolnknkkaaGreatDoor
open Go.RowKit

/-- A system, as it lies in memory. -/
structure RY (w : World) (A B : Option Addr) (s : Sy) : Prop where
  next : RdN w A s.next
  push : RdS w B s.push
theorem RY.up {w w' : World} {A B : Option Addr} {s : Sy} (h : RY w A B s) (hu : Up w w') : RY w' A B s := ⟨RdN.up h.next hu, h.push.up hu⟩
end Go.Proofs.YtmjcnpolnknkkaaGreatDoor

set_option linter.unusedVariables false
set_option linter.unusedSimpArgs false
namespace Go.Proofs.YtmjcnpolnknkkaaGreatDoor
open Go.RowKit

end Go.Proofs.YtmjcnpolnknkkaaGreatDoor
