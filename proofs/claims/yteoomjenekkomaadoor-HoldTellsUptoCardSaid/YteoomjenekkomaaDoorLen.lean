/- What the laws that compare with the reference share: an error told as it is, equal lists, plain bounds of numbers of faults. -/
import Derived.Test.YteoomjenekkomaaDoorRfs
import Derived.Test.YteoomjenekkomaaDoorRfyc
import Derived.Test.YteoomjenekkomaaDoorHasl
import Derived.Test.YteoomjenekkomaaDoorStepc
import Derived.Test.YteoomjenekkomaaDoorRow
import Derived.Test.YteoomjenekkomaaDoorBase
import Derived.Test.YteoomjenekkomaaDoorDoor
set_option linter.unusedVariables false
set_option linter.unusedSimpArgs false
namespace Go.Proofs.YteoomjenekkomaaDoor
open Go.ChangeShapes Go.WideShapes Go.ChangeAt Go.RowKit Go.Joins Go.Deep

theorem serr_same (E : Option Nat) (w : World) (hg : Door w) : Calls Tryd.prog 17 #[errV E, .int .i64 (numO E)] w fun ev w' => ev = .returned (.bool true) ∧ Up w w' :=
  (serr_any E (numO E) w hg).mono fun e w' h => ⟨by rw [h.1]; simp, h.2⟩
theorem serr_nil0 (w : World) (hg : Door w) : Calls Tryd.prog 17 #[.nilIface, .int .i64 0] w fun ev w' => ev = .returned (.bool true) ∧ Up w w' := serr_same none w hg
theorem serr_self (n : Int) (w : World) (hg : Door w) : Calls Tryd.prog 17 #[.iface 111 (.int .i64 n), .int .i64 n] w fun ev w' => ev = .returned (.bool true) ∧ Up w w' :=
  (serr_some n n w hg).mono fun e w' h => ⟨by rw [h.1]; simp, h.2⟩
theorem sbox_self (A B : Option Addr) (a : List Sp) (c d : Nat) (w : World) (ha : RdS w A a) (hb : RdS w B a) (hm : a.length ≤ 9223372036854775807) :
    Calls Tryd.prog 23 #[.slice A a.length c, .slice B a.length d] w fun ev w' => ev = .returned (.bool true) ∧ Up w w' :=
  (sbox_any A B a a c d w ha hb hm).mono fun e w' h => by have := h.val; simpa [boolV] using this
theorem sbox_nil (w : World) : Calls Tryd.prog 23 #[.slice none 0 0, .slice none 0 0] w fun ev w' => ev = .returned (.bool true) ∧ Up w w' :=
  sbox_self none none [] 0 0 w (RdS.nil w none) (RdS.nil w none) (by simp)
theorem sints_self (A B : Option Addr) (a : List Int) (c d : Nat) (w : World) (ha : RdI w A a) (hb : RdI w B a) (hm : a.length ≤ 9223372036854775807) :
    Calls Tryd.prog 29 #[.slice A a.length c, .slice B a.length d] w fun ev w' => ev = .returned (.bool true) ∧ Up w w' :=
  (sints_any A B a a c d w ha hb hm).mono fun e w' h => by have := h.val; simpa [boolV] using this
theorem sints_nil (w : World) : Calls Tryd.prog 29 #[.slice none 0 0, .slice none 0 0] w fun ev w' => ev = .returned (.bool true) ∧ Up w w' :=
  sints_self none none [] 0 0 w (RdI.nil w none) (RdI.nil w none) (by simp)
theorem nextG_num {b : List Sp} : ∀ (fs : List (List Tm)) (qs : List Sp) (e : Nat), nextG b fs qs = .error e → e = 4
  | [], _, e, h => by cases h
  | _ :: _, [], e, h => by cases h
  | f :: fs, q :: qs, e, h => by
    unfold nextG at h
    split at h
    · rename_i h1; injection h with h; subst h; exact fover_num _ _ _ h1
    · split at h
      · rename_i h1; injection h with h; subst h; exact sum_err h1
      · split at h
        · rename_i h1; injection h with h; subst h; exact nextG_num fs qs _ h1
        · cases h
theorem next_num {s : Sy} {b : List Sp} {e : Nat} (h : nextF s b = .error e) : e = 4 := nextG_num _ _ _ h
theorem moveG_num {x : List Int} : ∀ (fs : List (List Tm)) (qs : List Int) (e : Nat), moveG x fs qs = .error e → e = 4
  | [], _, e, h => by cases h
  | _ :: _, [], e, h => by cases h
  | f :: fs, q :: qs, e, h => by
    unfold moveG at h
    split at h
    · rename_i h1; injection h with h; subst h; exact pointF_num h1
    · split at h
      · split at h
        · rename_i h1; injection h with h; subst h; exact moveG_num fs qs _ h1
        · cases h
      · injection h with h; exact h.symm
theorem ypoint_num {s : Sy} {x q : List Int} {e : Nat} (h : ypointF s x q = .error e) : e = 5 ∨ e = 4 ∨ e = 1 ∨ e = 3 := by
  rcases ypoint_cases s x q with ⟨n, h1, h2⟩ | ⟨-, -, ⟨-, h2⟩ | ⟨-, -, ⟨-, h2⟩ | ⟨-, ⟨n, h1, h2⟩ | ⟨-, h2⟩⟩⟩⟩
  · rw [h2] at h; injection h with h; subst h; exact ycheck_num h1
  · rw [h2] at h; injection h with h; omega
  · rw [h2] at h; injection h with h; omega
  · rw [h2] at h; injection h with h; subst h; have := numbers_num h1; omega
  · rw [h2, preL_nil] at h; have := moveG_num _ _ _ h; omega
theorem nzd {e : Nat} (h : e = 5 ∨ e = 4 ∨ e = 1 ∨ e = 3) : ((e : Int) != 0) = true := by rcases h with rfl | rfl | rfl | rfl <;> rfl
theorem of_some {s : Sy} {b : List Sp} {k : Nat} (h : readyF s b = some k) : ofF s b = .error k := by unfold ofF; rw [h]; rfl
theorem of_none {s : Sy} {b : List Sp} (h : readyF s b = none) : ofF s b = nextF s b := by unfold ofF; rw [h]; rfl
theorem next_few {s : Sy} {b l : List Sp} (h : readyF s b = none) (h2 : nextF s b = .ok l) : l.length ≤ 3 := by
  obtain ⟨hs, hb, -⟩ := ready_good h
  have := (next_bx hs hb h2).2
  have := hs.few
  omega
theorem ypoint_few {s : Sy} {x q y : List Int} (h : ypointF s x q = .ok y) : y.length ≤ 3 := by
  obtain ⟨hs, -, hq, -, hm⟩ := point_ok h
  have := move_len _ _ _ (by rw [hq]) hm
  have := hs.few
  omega
end Go.Proofs.YteoomjenekkomaaDoor
