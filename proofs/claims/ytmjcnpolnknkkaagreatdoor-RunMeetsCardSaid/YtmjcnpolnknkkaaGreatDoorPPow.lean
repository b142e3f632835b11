/- Strings as lists of bytes; strconv.Itoa, where its table of powers of ten reads so. -/
import Derived.Test.YtmjcnpolnknkkaaGreatDoorPBase
import Derived.Lib.LaidTab
import Derived.Lib.AppendIntMem
import Derived.Lib.Itoa
import Derived.Test.YtmjcnpolnknkkaaGreatDoorPShf
set_option linter.unusedVariables false
set_option linter.unusedSimpArgs false
namespace Go.Proofs.YtmjcnpolnknkkaaGreatDoor
open Go.RowKit

/-- The table of powers of ten reads as it should. -/
def Pow (w : World) : Prop := Lib.TabIs Tryz.prog w "internal/strconv.uint64pow10" .u64 Lib.pow10Tab
theorem Pow.up {w w' : World} (h : Pow w) (hu : Up w w') : Pow w' := Lib.tabBelow_of_tabIs h w' hu
def strV (l : List UInt8) : Value := .string ⟨l.toArray⟩
theorem strV_eq (l : List UInt8) : strV l = .string ⟨l.toArray⟩ := rfl
attribute [go_sem] strV_eq
theorem ba_app (a b : List UInt8) : (⟨a.toArray⟩ : ByteArray) ++ ⟨b.toArray⟩ = ⟨(a ++ b).toArray⟩ := by
  apply ByteArray.ext
  simp
/-- A number as text. -/
theorem itoa_any (n : Int) (w : World) (h : I64 n) (hp : Pow w) : Calls Tryz.prog 83 #[.int .i64 n] w (RetX strV (Lib.itoa n) w) :=
  (Tryz.strconv_Itoa n h.1 h.2 w hp).mono fun e w' h => by
    obtain ⟨he, k, os, hw⟩ := h
    subst hw
    exact ⟨_, rfl, he, Lib.below_grow w.heap.size w (Nat.le_refl _) k os⟩
theorem ba_ext (a : List UInt8) (n : Nat) : (⟨a.toArray⟩ : ByteArray).extract 0 n = ⟨(a.take n).toArray⟩ := by
  apply ByteArray.ext
  simp
end Go.Proofs.YtmjcnpolnknkkaaGreatDoor
