/- The walks of box.Common, Hull, Meet. -/
import Derived.Test.YtopgjbjpmnlldaaDoorOwnS
import Derived.Deep.DeepCutAuto
set_option linter.unusedVariables false
set_option linter.unusedSimpArgs false
namespace Go.Proofs.YtopgjbjpmnlldaaDoor
open Go.RowKit

def preS (L : List Sp) : Except Nat (List Sp) → Except Nat (List Sp)
  | .error e => .error e
  | .ok l => .ok (L ++ l)
theorem preS_nil (r : Except Nat (List Sp)) : preS [] r = r := by cases r <;> rfl
theorem bcomF_bad {s t : Sp} {a b L : List Sp} {e : Nat} (h : comF s t = .error e) : preS L (bcomF (s :: a) (t :: b)) = .error e := by
  unfold bcomF; rw [h]; rfl
theorem bcomF_good {s t x : Sp} {a b L : List Sp} (h : comF s t = .ok x) : preS L (bcomF (s :: a) (t :: b)) = preS (L ++ [x]) (bcomF a b) := by
  conv => lhs; unfold bcomF
  rw [h]
  dsimp only
  cases bcomF a b <;> simp [preS]
theorem slE_up {w w' : World} {r : Except Nat (List Sp)} {v : Value} (h : slE w r v) (hu : Up w w') : slE w' r v := by
  cases r with
  | error n => exact h
  | ok l =>
    obtain ⟨A, c, rfl, hr, hc⟩ := h
    exact ⟨A, c, rfl, hr.up hu, hc⟩
end Go.Proofs.YtopgjbjpmnlldaaDoor
