/- What a law's arguments are, said of the world in which it is called. -/
import Derived.Test.YtafhcppigpjcpaaDoorBase
set_option linter.unusedVariables false
set_option linter.unusedSimpArgs false
namespace Go.Proofs.YtafhcppigpjcpaaDoor
open Go.RowKit

/-- A number that an int holds. -/
def I64 (n : Int) : Prop := -9223372036854775808 ≤ n ∧ n ≤ 9223372036854775807
/-- A slice of ints, as a list. -/
structure LI (w : World) (A : Option Addr) (l : List Int) (c : Nat) : Prop where
  rd : RdI w A l
  cap : l.length ≤ c
  max : c ≤ 9223372036854775807
  wf : ∀ n ∈ l, I64 n
/-- A slice of spans, as a list. -/
structure LS (w : World) (A : Option Addr) (l : List Sp) (c : Nat) : Prop where
  rd : RdS w A l
  cap : l.length ≤ c
  max : c ≤ 9223372036854775807
  wf : ∀ s ∈ l, I64 s.lo ∧ I64 s.hi
theorem LI.up {w w' : World} {A : Option Addr} {l : List Int} {c : Nat} (h : LI w A l c) (hu : Up w w') : LI w' A l c := ⟨h.rd.up hu, h.cap, h.max, h.wf⟩
theorem LS.up {w w' : World} {A : Option Addr} {l : List Sp} {c : Nat} (h : LS w A l c) (hu : Up w w') : LS w' A l c := ⟨h.rd.up hu, h.cap, h.max, h.wf⟩
/-- What a law comes to. -/
def LawEnd (w : World) (e : Ending) (w' : World) : Prop := e = .returned (.bool true) ∧ Up w w'
theorem LawEnd.mk {w w' : World} {v : Value} (hv : v = .bool true) (hu : Up w w') : LawEnd w (.returned v) w' := ⟨by rw [hv], hu⟩
end Go.Proofs.YtafhcppigpjcpaaDoor
