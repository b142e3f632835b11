/- An error told as it is; lists that are equal. -/
import Derived.Test.YtopgjbjpmnlldaaDoorTold
import Derived.Test.YtopgjbjpmnlldaaDoorRfs
set_option linter.unusedVariables false
set_option linter.unusedSimpArgs false
namespace Go.Proofs.YtopgjbjpmnlldaaDoor
open Go.RowKit

theorem serr_same (E : Option Nat) (w : World) (hg : Door w) : Calls Tryd.prog 10 #[errV E, .int .i64 (numO E)] w fun ev w' => ev = .returned (.bool true) ∧ Up w w' :=
  (serr_any E (numO E) w hg).mono fun e w' h => ⟨by rw [h.1]; simp, h.2⟩
theorem serr_nil0 (w : World) (hg : Door w) : Calls Tryd.prog 10 #[.nilIface, .int .i64 0] w fun ev w' => ev = .returned (.bool true) ∧ Up w w' := serr_same none w hg
theorem serr_self (n : Int) (w : World) (hg : Door w) : Calls Tryd.prog 10 #[.iface 62 (.int .i64 n), .int .i64 n] w fun ev w' => ev = .returned (.bool true) ∧ Up w w' :=
  (serr_some n n w hg).mono fun e w' h => ⟨by rw [h.1]; simp, h.2⟩
theorem sbox_self (A B : Option Addr) (a : List Sp) (c d : Nat) (w : World) (ha : RdS w A a) (hb : RdS w B a) (hm : a.length ≤ 9223372036854775807) :
    Calls Tryd.prog 25 #[.slice A a.length c, .slice B a.length d] w fun ev w' => ev = .returned (.bool true) ∧ Up w w' :=
  (sbox_any A B a a c d w ha hb hm).mono fun e w' h => by have := h.val; simpa [boolV] using this
theorem sbox_nil (w : World) : Calls Tryd.prog 25 #[.slice none 0 0, .slice none 0 0] w fun ev w' => ev = .returned (.bool true) ∧ Up w w' :=
  sbox_self none none [] 0 0 w (RdS.nil w none) (RdS.nil w none) (by simp)
end Go.Proofs.YtopgjbjpmnlldaaDoor
