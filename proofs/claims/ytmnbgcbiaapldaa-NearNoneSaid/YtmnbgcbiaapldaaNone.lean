/- The walk of spanlaw4.none. -/
import Derived.Test.YtmnbgcbiaapldaaStepd
import Derived.Test.YtmnbgcbiaapldaaHas
import Derived.Test.YtmnbgcbiaapldaaLits

set_option linter.unusedVariables false
set_option linter.unusedSimpArgs false
namespace Go.Proofs.Ytmnbgcbiaapldaa
open Go.RowKit

def noneR (w : World) (_ : Unit) (v : Value) : Prop := ∃ A B, v = .agg #[.slice A 1 1, .slice B 1 1] ∧ RY w A B none_
set_option maxRecDepth 100000 in
set_option maxHeartbeats 1000000 in
theorem none_any (w : World) : Calls Try.prog 71 #[] w (RetR noneR () w) := by
  go_enter Try.func71, Try.ntmps71
  go_wp2
  (refine bodyPost_res rfl ?_; simp only [results, Try.results71]; go_simp; refine resPost_ok ?_)
  refine RetR.mk () ?_ rfl (rel := noneR) ⟨_, _, rfl, ⟨rdn1 (by go_simp; rfl) (rdt1 (by go_simp) (by go_simp) (by go_simp) (by go_simp)), rds1 (by go_simp) (by go_simp)⟩⟩
  (repeat (first | (with_reducible exact Up.refl _) | (with_reducible assumption) | (with_reducible refine Up.alloc ?_ _) | (with_reducible refine Up.drew ?_) | ((with_reducible refine Up.set ?_ ?_ _); rotate_left; focus (first | omega | (simp; done) | (simp; omega))) | (with_reducible refine Up.drewN ?_ _) | (with_reducible refine Up.call ?_ (by with_reducible assumption))))
end Go.Proofs.Ytmnbgcbiaapldaa
