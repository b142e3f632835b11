/- Strings as lists of bytes; strconv.Itoa, where its table of powers of ten reads so. -/
import Derived.Test.YtopgjbjpmnlldaaDoorBase
import Derived.Lib.LaidTab
import Derived.Lib.AppendIntMem
import Derived.Lib.Itoa
import Derived.Test.YtopgjbjpmnlldaaDoorShf
set_option linter.unusedVariables false
set_option linter.unusedSimpArgs false
namespace Go.Proofs.YtopgjbjpmnlldaaDoor
open Go.RowKit

/-- The table of powers of ten reads as it should. -/
def Pow (w : World) : Prop := Lib.TabIs Tryd.prog w "internal/strconv.uint64pow10" .u64 Lib.pow10Tab
theorem Pow.up {w w' : World} (h : Pow w) (hu : Up w w') : Pow w' := Lib.tabBelow_of_tabIs h w' hu
theorem Tryd.infoString : (Tryd.prog.info? 9).map (fun i => (i.zero, i.size, i.bytes)) = some (some (.string ⟨#[]⟩), 1, 16) := by kernel_rfl
def strV (l : List UInt8) : Value := .string ⟨l.toArray⟩
theorem strV_eq (l : List UInt8) : strV l = .string ⟨l.toArray⟩ := rfl
attribute [go_sem] strV_eq
theorem ba_app (a b : List UInt8) : (⟨a.toArray⟩ : ByteArray) ++ ⟨b.toArray⟩ = ⟨(a ++ b).toArray⟩ := by
  apply ByteArray.ext
  simp
theorem dec_bd : ∀ (k u : Nat), u < 10 ^ (k + 1) → (Lib.decDigits u).length ≤ k + 1 ∧ ∀ x ∈ Lib.decDigits u, x ≠ 10 := by
  intro k
  induction k with
  | zero =>
    intro u hu
    rw [Lib.decDigits, dif_pos (by omega)]
    refine ⟨by simp, fun x hx => ?_⟩
    simp only [List.mem_singleton] at hx
    subst hx
    have : ∀ u : Fin 10, UInt8.ofNat (48 + u.val) ≠ 10 := by decide
    exact this ⟨u, by omega⟩
  | succ k ih =>
    intro u hu
    have hd : ∀ u : Fin 10, UInt8.ofNat (48 + u.val) ≠ 10 := by decide
    rw [Lib.decDigits]
    split
    · rename_i h
      refine ⟨by simp, fun x hx => ?_⟩
      simp only [List.mem_singleton] at hx
      subst hx
      exact hd ⟨u, h⟩
    · obtain ⟨h1, h2⟩ := ih (u / 10) (by rw [Nat.pow_succ] at hu; omega)
      refine ⟨by simp; omega, fun x hx => ?_⟩
      rcases List.mem_append.1 hx with hx | hx
      · exact h2 x hx
      · simp only [List.mem_singleton] at hx
        subst hx
        exact hd ⟨u % 10, by omega⟩
theorem itoa_bd (n : Int) (h : I64 n) : (Lib.itoa n).length ≤ 20 ∧ ∀ x ∈ Lib.itoa n, x ≠ 10 := by
  obtain ⟨h1, h2⟩ := h
  unfold Lib.itoa
  split
  · obtain ⟨k1, k2⟩ := dec_bd 18 n.natAbs (by omega)
    refine ⟨by simp; omega, fun x hx => ?_⟩
    rcases List.mem_cons.1 hx with rfl | hx
    · decide
    · exact k2 x hx
  · obtain ⟨k1, k2⟩ := dec_bd 18 n.toNat (by omega)
    exact ⟨by omega, k2⟩
/-- A number as text. -/
theorem itoa_any (n : Int) (w : World) (h : I64 n) (hp : Pow w) : Calls Tryd.prog 61 #[.int .i64 n] w (RetX strV (Lib.itoa n) w) :=
  (Tryd.strconv_Itoa n h.1 h.2 w hp).mono fun e w' h => by
    obtain ⟨he, k, os, hw⟩ := h
    subst hw
    exact ⟨_, rfl, he, Lib.below_grow w.heap.size w (Nat.le_refl _) k os⟩
theorem ba_ext (a : List UInt8) (n : Nat) : (⟨a.toArray⟩ : ByteArray).extract 0 n = ⟨(a.take n).toArray⟩ := by
  apply ByteArray.ext
  simp
end Go.Proofs.YtopgjbjpmnlldaaDoor
