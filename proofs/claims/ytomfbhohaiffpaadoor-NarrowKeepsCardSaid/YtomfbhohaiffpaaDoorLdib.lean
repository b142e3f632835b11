/- What NarrowTells needs in plain Lean: the phases of what goes together, each with what is known behind it. -/
import Derived.Test.YtomfbhohaiffpaaDoorKeeps
import Derived.Test.YtomfbhohaiffpaaDoorRfs
import Derived.Test.YtomfbhohaiffpaaDoorNarrowb
import Derived.Test.YtomfbhohaiffpaaDoorBase
import Derived.Test.YtomfbhohaiffpaaDoorNest
import Derived.Test.YtomfbhohaiffpaaDoorDoor
set_option linter.unusedVariables false
set_option linter.unusedSimpArgs false
namespace Go.Proofs.YtomfbhohaiffpaaDoor
open Go.RowKit

theorem numO_none : numO none = 0 := rfl
theorem numO_some (n : Nat) : numO (some n) = (n : Int) := rfl
/-- Behind a step: all is well and P holds, or the whole ends with this fault. -/
def Ph (F : Except Nat (Sp × Sp × Sp)) (er : Option Nat) (P : Prop) : Prop := (er = none ∧ P) ∨ ∃ n, er = some n ∧ n ≠ 0 ∧ F = .error n
theorem Ph.of {F : Except Nat (Sp × Sp × Sp)} {r : Except Nat Sp} {P : Sp → Prop} (h1 : ∀ s, r = .ok s → P s) (h2 : ∀ n, r = .error n → n ≠ 0 ∧ F = .error n) : Ph F (eO r) (P (got r)) := by
  cases r with
  | ok s => exact .inl ⟨rfl, h1 s rfl⟩
  | error n => exact .inr ⟨n, rfl, h2 n rfl⟩
section
variable {there back : Sp → Sp → Except Nat Sp} {may : Sp → Bool} {x y z : Sp}
theorem al1 (hc : check3F x y z = none) {n : Nat} (h : there x y = .error n) : allF there back may x y z = .error n := by
  unfold allF; rw [hc]; dsimp only; rw [h]; rfl
theorem al2 (hc : check3F x y z = none) {n : Nat} (h : keptF z (there x y) = .error n) : allF there back may x y z = .error n := by
  unfold allF; rw [hc]; dsimp only; rw [h]
theorem al3 (hc : check3F x y z = none) {c : Sp} (h1 : keptF z (there x y) = .ok c) {n : Nat} (h : otherF back may x c y = .error n) : allF there back may x y z = .error n := by
  unfold allF; rw [hc]; dsimp only; rw [h1]; dsimp only; rw [h]
theorem al4 (hc : check3F x y z = none) {c a : Sp} (h1 : keptF z (there x y) = .ok c) (h2 : otherF back may x c y = .ok a) {n : Nat} (h : otherF back may y c a = .error n) : allF there back may x y z = .error n := by
  unfold allF; rw [hc]; dsimp only; rw [h1]; dsimp only; rw [h2]; dsimp only; rw [h]
theorem al5 (hc : check3F x y z = none) {c a b : Sp} (h1 : keptF z (there x y) = .ok c) (h2 : otherF back may x c y = .ok a) (h3 : otherF back may y c a = .ok b) : allF there back may x y z = .ok (a, b, c) := by
  unfold allF; rw [hc]; dsimp only; rw [h1]; dsimp only; rw [h2]; dsimp only; rw [h3]
theorem ot1 {u c v : Sp} (hm : may v = true) {n : Nat} (h : back c v = .error n) : otherF back may u c v = .error n := by
  unfold otherF; rw [if_pos hm, h]; rfl
theorem ot2 {u c v t : Sp} (hm : may v = true) (h : back c v = .ok t) {r : Except Nat Sp} (h2 : comF u t = r) : otherF back may u c v = r := by
  unfold otherF; rw [if_pos hm, h]; exact h2
theorem ot3 {u c v : Sp} (hm : may v = false) : otherF back may u c v = .ok u := by
  unfold otherF; rw [hm]; rfl
end
theorem kp2 {z t : Sp} {r q : Except Nat Sp} (h : r = .ok t) (h2 : comF z t = q) : keptF z r = q := by rw [h]; exact h2
theorem er4 {n : Nat} (h : n = 4) : n ≠ 0 := by omega
theorem er5 {n : Nat} (h : n = 5) : n ≠ 0 := by omega
theorem er8 {n : Nat} (h : n = 8 ∨ n = 4) : n ≠ 0 := by omega
theorem chk_some {x y z : Sp} {e : Nat} (h : twoE x y = some e) : check3F x y z = some e := by
  unfold twoE at h
  unfold check3F
  split at h
  · rename_i e' he; rw [he]; exact h
  · rename_i he; rw [he]; dsimp only; rw [h]
theorem chk_none {x y z : Sp} (h : twoE x y = none) : check3F x y z = checkF z := by
  unfold twoE at h
  unfold check3F
  split at h
  · cases h
  · rename_i he; rw [he]; dsimp only; rw [h]
theorem chk_ne {x y z : Sp} {e : Nat} (h : check3F x y z = some e) : e ≠ 0 := by
  unfold check3F at h
  split at h
  · rename_i e' he; injection h with h; subst h; rcases check_num he with rfl | rfl <;> omega
  · split at h
    · rename_i e' he; injection h with h; subst h; rcases check_num he with rfl | rfl <;> omega
    · rcases check_num h with rfl | rfl <;> omega
theorem al0 {there back : Sp → Sp → Except Nat Sp} {may : Sp → Bool} {x y z : Sp} {e : Nat} (h : check3F x y z = some e) : allF there back may x y z = .error e := by
  unfold allF; rw [h]
/-- Three spans and a fault, as the program hands them back. -/
def Is3 (F : Except Nat (Sp × Sp × Sp)) (A B C : Sp) (E : Option Nat) : Prop := (E = none ∧ F = .ok (A, B, C)) ∨ ∃ n, E = some n ∧ F = .error n ∧ A = ⟨0, 0⟩ ∧ B = ⟨0, 0⟩ ∧ C = ⟨0, 0⟩
theorem Is3.ok {F : Except Nat (Sp × Sp × Sp)} {A B C a b c : Sp} {E er : Option Nat} (h : Is3 F A B C E) (h1 : er = none) (h2 : F = .ok (a, b, c)) : E = er ∧ A = a ∧ B = b ∧ C = c := by
  rcases h with ⟨rfl, h⟩ | ⟨n, rfl, h, -⟩
  · rw [h2] at h; injection h with h; injection h with h3 h; injection h with h4 h5; exact ⟨h1.symm, h3.symm, h4.symm, h5.symm⟩
  · rw [h2] at h; cases h
theorem Is3.bad {F : Except Nat (Sp × Sp × Sp)} {A B C : Sp} {E : Option Nat} {n : Nat} (h : Is3 F A B C E) (h2 : F = .error n) : E = some n ∧ A = ⟨0, 0⟩ ∧ B = ⟨0, 0⟩ ∧ C = ⟨0, 0⟩ := by
  rcases h with ⟨rfl, h⟩ | ⟨m, rfl, h, h3, h4, h5⟩
  · rw [h2] at h; cases h
  · rw [h2] at h; injection h with h; subst h; exact ⟨rfl, h3, h4, h5⟩
theorem sp3_is {f : FuncId} {ar : Array Value} {F : Except Nat (Sp × Sp × Sp)} (h : ∀ w, Calls Tryd.prog f ar w (RetX sp3R F w)) :
    ∃ A B C E, Is3 F A B C E ∧ ∀ w, Calls Tryd.prog f ar w fun e w' => e = .returned (.tuple #[.agg #[.int .i64 A.lo, .int .i64 A.hi], .agg #[.int .i64 B.lo, .int .i64 B.hi], .agg #[.int .i64 C.lo, .int .i64 C.hi], errV E]) ∧ Up w w' := by
  cases F with
  | ok p =>
    obtain ⟨a, b, c⟩ := p
    exact ⟨a, b, c, none, .inl ⟨rfl, rfl⟩, fun w => (h w).mono fun e w' h => h.val⟩
  | error n => exact ⟨⟨0, 0⟩, ⟨0, 0⟩, ⟨0, 0⟩, some n, .inr ⟨n, rfl, rfl, rfl, rfl, rfl⟩, fun w => (h w).mono fun e w' h => h.val⟩
theorem serr_same (E : Option Nat) (w : World) (hg : Door w) : Calls Tryd.prog 11 #[errV E, .int .i64 (numO E)] w fun ev w' => ev = .returned (.bool true) ∧ Up w w' :=
  (serr_any E (numO E) w hg).mono fun e w' h => ⟨by rw [h.1]; simp, h.2⟩
theorem serr_nil0 (w : World) (hg : Door w) : Calls Tryd.prog 11 #[.nilIface, .int .i64 0] w fun ev w' => ev = .returned (.bool true) ∧ Up w w' := serr_same none w hg
theorem serr_self (n : Nat) (w : World) (hg : Door w) : Calls Tryd.prog 11 #[.iface 41 (.int .i64 (n : Int)), .int .i64 (n : Int)] w fun ev w' => ev = .returned (.bool true) ∧ Up w w' := serr_same (some n) w hg
theorem zeX {f : FuncId} {ar : Array Value} {w : World} {r : Bool} (h : Calls Tryd.prog f ar w (RetX boolV r w)) :
    Calls Tryd.prog f ar w fun e w' => e = .returned (.bool r) ∧ Up w w' := h.mono fun e w' h => h.val
theorem comz_rt {a b s : Sp} (h : comF a b = .ok s) (ha : Rt a) : Rt s := by
  obtain ⟨q1, q2, q3, q4, q5⟩ := com_within h
  obtain ⟨⟨a1, a2⟩, ⟨a3, a4⟩, a5⟩ := ha
  exact ⟨⟨by omega, by omega⟩, ⟨by omega, by omega⟩, by omega⟩
theorem kept_rt2 {a t : Sp} {r : Except Nat Sp} (ha : Rt a) (h : keptF a r = .ok t) : Rt t := kept_rt ha h
/-- Two cells that hold a span, and may be written. -/
def C2 (W : World) (b : Nat) (s : Sp) : Prop := Cf W b 0 (.int .i64 s.lo) ∧ Cf W b 1 (.int .i64 s.hi)
theorem C2.mk {W : World} {b : Nat} {s : Sp} (h0 : W.cell? ⟨b, 0, none⟩ = some (.int .i64 s.lo)) (h1 : W.frozen? ⟨b, 0, none⟩ = false) (h2 : W.cell? ⟨b, 1, none⟩ = some (.int .i64 s.hi)) (h3 : W.frozen? ⟨b, 1, none⟩ = false) : C2 W b s := ⟨⟨h0, h1⟩, ⟨h2, h3⟩⟩
def N0 (w : World) (x y z : Sp) (wx : World) : Prop := Up w wx ∧ C2 wx w.heap.size x ∧ C2 wx (w.heap.size + 1) y ∧ C2 wx (w.heap.size + 1 + 1) z
def NS (w wa : World) (x y z a b c t : Sp) (wx : World) : Prop :=
  N0 w x y z wx ∧ C2 wx wa.heap.size a ∧ C2 wx (wa.heap.size + 1) b ∧ C2 wx (wa.heap.size + 1 + 1) c ∧ C2 wx (wa.heap.size + 1 + 1 + 1) t
def NT (w wa wb : World) (x y z a b c t p q r : Sp) (wx : World) : Prop :=
  NS w wa x y z a b c t wx ∧ C2 wx wb.heap.size p ∧ C2 wx (wb.heap.size + 1) q ∧ C2 wx (wb.heap.size + 1 + 1) r
theorem C2.up {W W' : World} {b : Nat} {s : Sp} (h : C2 W b s) (hu : Up W W') : C2 W' b s := ⟨Cf.up h.1 hu, Cf.up h.2 hu⟩
theorem C2.far {W : World} {b b' : Nat} {s : Sp} (h : C2 W b s) (hne : b ≠ b') (u v : Value) : C2 ((W.setCell ⟨b', 0, none⟩ u).setCell ⟨b', 1, none⟩ v) b s :=
  ⟨Cf.far (Cf.far h.1 (.inl hne)) (.inl hne), Cf.far (Cf.far h.2 (.inl hne)) (.inl hne)⟩
theorem C2.put {W : World} {b : Nat} {s : Sp} (h : C2 W b s) (lo hi : Int) : C2 ((W.setCell ⟨b, 0, none⟩ (.int .i64 lo)).setCell ⟨b, 1, none⟩ (.int .i64 hi)) b ⟨lo, hi⟩ :=
  ⟨Cf.far (Cf.put _ h.1) (.inr (by decide)), Cf.put _ (Cf.far h.2 (.inr (by decide)))⟩
theorem N0.up {w W W' : World} {x y z : Sp} (h : N0 w x y z W) (hu : Up W W') : N0 w x y z W' := ⟨h.1.call hu, h.2.1.up hu, h.2.2.1.up hu, h.2.2.2.up hu⟩
theorem N0.far {w W : World} {x y z : Sp} (h : N0 w x y z W) {b' : Nat} (hb : w.heap.size + 1 + 1 < b') (u v : Value) : N0 w x y z ((W.setCell ⟨b', 0, none⟩ u).setCell ⟨b', 1, none⟩ v) :=
  ⟨(h.1.set (show w.heap.size ≤ b' by omega) _).set (show w.heap.size ≤ b' by omega) _, h.2.1.far (by omega) _ _, h.2.2.1.far (by omega) _ _, h.2.2.2.far (by omega) _ _⟩
theorem NS.up {w wa W W' : World} {x y z a b c t : Sp} (h : NS w wa x y z a b c t W) (hu : Up W W') : NS w wa x y z a b c t W' := ⟨h.1.up hu, h.2.1.up hu, h.2.2.1.up hu, h.2.2.2.1.up hu, h.2.2.2.2.up hu⟩
theorem NT.up {w wa wb W W' : World} {x y z a b c t p q r : Sp} (h : NT w wa wb x y z a b c t p q r W) (hu : Up W W') : NT w wa wb x y z a b c t p q r W' := ⟨h.1.up hu, h.2.1.up hu, h.2.2.1.up hu, h.2.2.2.up hu⟩
theorem NT.end {w wa wb W : World} {x y z a b c t p q r : Sp} (h : NT w wa wb x y z a b c t p q r W) : Up w W := h.1.1.1
theorem NS.putA {w wa W : World} {x y z a b c t : Sp} (hA : w.heap.size + 1 + 1 < wa.heap.size) (h : NS w wa x y z a b c t W) (lo hi : Int) : NS w wa x y z ⟨lo, hi⟩ b c t ((W.setCell ⟨(wa.heap.size), 0, none⟩ (.int .i64 lo)).setCell ⟨(wa.heap.size), 1, none⟩ (.int .i64 hi)) :=
  ⟨h.1.far (by omega) _ _, h.2.1.put lo hi, h.2.2.1.far (by omega) _ _, h.2.2.2.1.far (by omega) _ _, h.2.2.2.2.far (by omega) _ _⟩
theorem NT.putA {w wa wb W : World} {x y z a b c t p q r : Sp} (hA : w.heap.size + 1 + 1 < wa.heap.size) (hB : wa.heap.size + 1 + 1 + 1 < wb.heap.size) (h : NT w wa wb x y z a b c t p q r W) (lo hi : Int) : NT w wa wb x y z ⟨lo, hi⟩ b c t p q r ((W.setCell ⟨(wa.heap.size), 0, none⟩ (.int .i64 lo)).setCell ⟨(wa.heap.size), 1, none⟩ (.int .i64 hi)) :=
  ⟨NS.putA hA h.1 lo hi, h.2.1.far (by omega) _ _, h.2.2.1.far (by omega) _ _, h.2.2.2.far (by omega) _ _⟩
theorem NS.putB {w wa W : World} {x y z a b c t : Sp} (hA : w.heap.size + 1 + 1 < wa.heap.size) (h : NS w wa x y z a b c t W) (lo hi : Int) : NS w wa x y z a ⟨lo, hi⟩ c t ((W.setCell ⟨(wa.heap.size + 1), 0, none⟩ (.int .i64 lo)).setCell ⟨(wa.heap.size + 1), 1, none⟩ (.int .i64 hi)) :=
  ⟨h.1.far (by omega) _ _, h.2.1.far (by omega) _ _, h.2.2.1.put lo hi, h.2.2.2.1.far (by omega) _ _, h.2.2.2.2.far (by omega) _ _⟩
theorem NT.putB {w wa wb W : World} {x y z a b c t p q r : Sp} (hA : w.heap.size + 1 + 1 < wa.heap.size) (hB : wa.heap.size + 1 + 1 + 1 < wb.heap.size) (h : NT w wa wb x y z a b c t p q r W) (lo hi : Int) : NT w wa wb x y z a ⟨lo, hi⟩ c t p q r ((W.setCell ⟨(wa.heap.size + 1), 0, none⟩ (.int .i64 lo)).setCell ⟨(wa.heap.size + 1), 1, none⟩ (.int .i64 hi)) :=
  ⟨NS.putB hA h.1 lo hi, h.2.1.far (by omega) _ _, h.2.2.1.far (by omega) _ _, h.2.2.2.far (by omega) _ _⟩
theorem NS.putC {w wa W : World} {x y z a b c t : Sp} (hA : w.heap.size + 1 + 1 < wa.heap.size) (h : NS w wa x y z a b c t W) (lo hi : Int) : NS w wa x y z a b ⟨lo, hi⟩ t ((W.setCell ⟨(wa.heap.size + 1 + 1), 0, none⟩ (.int .i64 lo)).setCell ⟨(wa.heap.size + 1 + 1), 1, none⟩ (.int .i64 hi)) :=
  ⟨h.1.far (by omega) _ _, h.2.1.far (by omega) _ _, h.2.2.1.far (by omega) _ _, h.2.2.2.1.put lo hi, h.2.2.2.2.far (by omega) _ _⟩
theorem NT.putC {w wa wb W : World} {x y z a b c t p q r : Sp} (hA : w.heap.size + 1 + 1 < wa.heap.size) (hB : wa.heap.size + 1 + 1 + 1 < wb.heap.size) (h : NT w wa wb x y z a b c t p q r W) (lo hi : Int) : NT w wa wb x y z a b ⟨lo, hi⟩ t p q r ((W.setCell ⟨(wa.heap.size + 1 + 1), 0, none⟩ (.int .i64 lo)).setCell ⟨(wa.heap.size + 1 + 1), 1, none⟩ (.int .i64 hi)) :=
  ⟨NS.putC hA h.1 lo hi, h.2.1.far (by omega) _ _, h.2.2.1.far (by omega) _ _, h.2.2.2.far (by omega) _ _⟩
theorem NS.putT {w wa W : World} {x y z a b c t : Sp} (hA : w.heap.size + 1 + 1 < wa.heap.size) (h : NS w wa x y z a b c t W) (lo hi : Int) : NS w wa x y z a b c ⟨lo, hi⟩ ((W.setCell ⟨(wa.heap.size + 1 + 1 + 1), 0, none⟩ (.int .i64 lo)).setCell ⟨(wa.heap.size + 1 + 1 + 1), 1, none⟩ (.int .i64 hi)) :=
  ⟨h.1.far (by omega) _ _, h.2.1.far (by omega) _ _, h.2.2.1.far (by omega) _ _, h.2.2.2.1.far (by omega) _ _, h.2.2.2.2.put lo hi⟩
theorem NT.putT {w wa wb W : World} {x y z a b c t p q r : Sp} (hA : w.heap.size + 1 + 1 < wa.heap.size) (hB : wa.heap.size + 1 + 1 + 1 < wb.heap.size) (h : NT w wa wb x y z a b c t p q r W) (lo hi : Int) : NT w wa wb x y z a b c ⟨lo, hi⟩ p q r ((W.setCell ⟨(wa.heap.size + 1 + 1 + 1), 0, none⟩ (.int .i64 lo)).setCell ⟨(wa.heap.size + 1 + 1 + 1), 1, none⟩ (.int .i64 hi)) :=
  ⟨NS.putT hA h.1 lo hi, h.2.1.far (by omega) _ _, h.2.2.1.far (by omega) _ _, h.2.2.2.far (by omega) _ _⟩
theorem NS.far {w wa W : World} {x y z a b c t : Sp} (hA : w.heap.size + 1 + 1 < wa.heap.size) (h : NS w wa x y z a b c t W) {b' : Nat} (hb : wa.heap.size + 1 + 1 + 1 < b') (u v : Value) : NS w wa x y z a b c t ((W.setCell ⟨b', 0, none⟩ u).setCell ⟨b', 1, none⟩ v) :=
  ⟨h.1.far (by omega) _ _, h.2.1.far (by omega) _ _, h.2.2.1.far (by omega) _ _, h.2.2.2.1.far (by omega) _ _, h.2.2.2.2.far (by omega) _ _⟩
theorem NT.putP {w wa wb W : World} {x y z a b c t p q r : Sp} (hA : w.heap.size + 1 + 1 < wa.heap.size) (hB : wa.heap.size + 1 + 1 + 1 < wb.heap.size) (h : NT w wa wb x y z a b c t p q r W) (lo hi : Int) : NT w wa wb x y z a b c t ⟨lo, hi⟩ q r ((W.setCell ⟨(wb.heap.size), 0, none⟩ (.int .i64 lo)).setCell ⟨(wb.heap.size), 1, none⟩ (.int .i64 hi)) :=
  ⟨h.1.far hA (by omega) _ _, h.2.1.put lo hi, h.2.2.1.far (by omega) _ _, h.2.2.2.far (by omega) _ _⟩
theorem NT.putQ {w wa wb W : World} {x y z a b c t p q r : Sp} (hA : w.heap.size + 1 + 1 < wa.heap.size) (hB : wa.heap.size + 1 + 1 + 1 < wb.heap.size) (h : NT w wa wb x y z a b c t p q r W) (lo hi : Int) : NT w wa wb x y z a b c t p ⟨lo, hi⟩ r ((W.setCell ⟨(wb.heap.size + 1), 0, none⟩ (.int .i64 lo)).setCell ⟨(wb.heap.size + 1), 1, none⟩ (.int .i64 hi)) :=
  ⟨h.1.far hA (by omega) _ _, h.2.1.far (by omega) _ _, h.2.2.1.put lo hi, h.2.2.2.far (by omega) _ _⟩
theorem NT.putR {w wa wb W : World} {x y z a b c t p q r : Sp} (hA : w.heap.size + 1 + 1 < wa.heap.size) (hB : wa.heap.size + 1 + 1 + 1 < wb.heap.size) (h : NT w wa wb x y z a b c t p q r W) (lo hi : Int) : NT w wa wb x y z a b c t p q ⟨lo, hi⟩ ((W.setCell ⟨(wb.heap.size + 1 + 1), 0, none⟩ (.int .i64 lo)).setCell ⟨(wb.heap.size + 1 + 1), 1, none⟩ (.int .i64 hi)) :=
  ⟨h.1.far hA (by omega) _ _, h.2.1.far (by omega) _ _, h.2.2.1.far (by omega) _ _, h.2.2.2.put lo hi⟩
theorem nz8' {e : Nat} (h : e = 8 ∨ e = 4) : ((e : Int) == 0) = false := by rcases h with rfl | rfl <;> rfl
theorem neA {h k : Nat} (a : h + 1 + 1 < k) : h + 2 ≠ k ∧ k ≠ h + 2 ∧ h + 1 ≠ k ∧ k ≠ h + 1 ∧ h ≠ k ∧ k ≠ h ∧ h ≠ k + 1 ∧ k + 1 ≠ h ∧ h ≠ k + 2 ∧ k + 2 ≠ h ∧ h ≠ k + 3 ∧ k + 3 ≠ h ∧ h < k + 1 ∧ h < k + 2 ∧ h < k + 1 + 1 ∧ h < k + 1 + 1 + 1 ∧ h < k + 3 ∧ h + 1 < k + 1 ∧ h + 1 < k + 2 ∧ h + 1 < k + 1 + 1 ∧ h + 1 < k + 1 + 1 + 1 ∧ h + 1 < k + 3 ∧ h + 1 + 1 < k + 1 ∧ h + 1 + 1 < k + 2 ∧ h + 1 + 1 < k + 1 + 1 ∧ h + 1 + 1 < k + 1 + 1 + 1 ∧ h + 1 + 1 < k + 3 :=
  ⟨by omega, by omega, by omega, by omega, by omega, by omega, by omega, by omega, by omega, by omega, by omega, by omega, by omega, by omega, by omega, by omega, by omega, by omega, by omega, by omega, by omega, by omega, by omega, by omega, by omega, by omega, by omega⟩
theorem ne9 {h k m : Nat} (a : h + 1 + 1 < k) (b : k + 1 + 1 + 1 < m) : h + 2 ≠ m ∧ m ≠ h + 2 ∧ h + 1 ≠ m ∧ m ≠ h + 1 ∧ h ≠ m ∧ m ≠ h ∧ h ≠ m + 1 ∧ m + 1 ≠ h ∧ h ≠ m + 2 ∧ m + 2 ≠ h ∧ k + 3 ≠ m ∧ m ≠ k + 3 ∧ k + 2 ≠ m ∧ m ≠ k + 2 ∧ k + 1 ≠ m ∧ m ≠ k + 1 ∧ k ≠ m ∧ m ≠ k ∧ k ≠ m + 1 ∧ m + 1 ≠ k ∧ k ≠ m + 2 ∧ m + 2 ≠ k ∧ h < m + 1 ∧ h < m + 2 ∧ h < m + 1 + 1 ∧ h + 1 < m + 1 ∧ h + 1 < m + 2 ∧ h + 1 < m + 1 + 1 ∧ h + 1 + 1 < m + 1 ∧ h + 1 + 1 < m + 2 ∧ h + 1 + 1 < m + 1 + 1 ∧ k < m + 1 ∧ k < m + 2 ∧ k < m + 1 + 1 ∧ k + 1 < m + 1 ∧ k + 1 < m + 2 ∧ k + 1 < m + 1 + 1 ∧ k + 1 + 1 < m + 1 ∧ k + 1 + 1 < m + 2 ∧ k + 1 + 1 < m + 1 + 1 ∧ k + 1 + 1 + 1 < m + 1 ∧ k + 1 + 1 + 1 < m + 2 ∧ k + 1 + 1 + 1 < m + 1 + 1 ∧ h + 1 + 1 < m ∧ h + 1 < m ∧ h < m ∧ k < m ∧ k + 1 < m ∧ k + 1 + 1 < m ∧ k + 1 + 1 + 1 < m ∧ h + 2 < m ∧ k + 2 < m ∧ k + 3 < m :=
  ⟨by omega, by omega, by omega, by omega, by omega, by omega, by omega, by omega, by omega, by omega, by omega, by omega, by omega, by omega, by omega, by omega, by omega, by omega, by omega, by omega, by omega, by omega, by omega, by omega, by omega, by omega, by omega, by omega, by omega, by omega, by omega, by omega, by omega, by omega, by omega, by omega, by omega, by omega, by omega, by omega, by omega, by omega, by omega, by omega, by omega, by omega, by omega, by omega, by omega, by omega, by omega, by omega, by omega⟩
end Go.Proofs.YtomfbhohaiffpaaDoor
