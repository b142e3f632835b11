/- Lists of terms, lists of such lists, lists of lists, as they lie in memory. -/
import Derived.Test.YtafhcppigpjcpaaDoorArgs
set_option linter.unusedVariables false
set_option linter.unusedSimpArgs false
namespace Go.Proofs.YtafhcppigpjcpaaDoor
open Go.RowKit

/-- A slice of terms. -/
def RdT (w : World) (A : Option Addr) (l : List Tm) : Prop :=
  l ≠ [] → ∃ b o, A = some ⟨b, o, none⟩ ∧ b < w.heap.size ∧ ∀ k, k < l.length → w.cell? ⟨b, o + k * 4, none⟩ = some (.int .i64 (l[k]?.getD default).by_) ∧ w.cell? ⟨b, o + k * 4 + 1, none⟩ = some (.int .i64 (l[k]?.getD default).t0) ∧
    w.cell? ⟨b, o + k * 4 + 2, none⟩ = some (.int .i64 (l[k]?.getD default).t1) ∧ w.cell? ⟨b, o + k * 4 + 3, none⟩ = some (.int .i64 (l[k]?.getD default).t2)
theorem RdT.nil (w : World) (A : Option Addr) : RdT w A [] := fun h => absurd rfl h
theorem RdT.up {w w' : World} {A : Option Addr} {l : List Tm} (h : RdT w A l) (hu : Up w w') : RdT w' A l := fun hl => by
  obtain ⟨b, o, rfl, hb, hc⟩ := h hl
  refine ⟨b, o, rfl, Nat.lt_of_lt_of_le hb hu.le, fun k hk => ?_⟩
  obtain ⟨h0, h1, h2, h3⟩ := hc k hk
  exact ⟨(Below.cell hu (p := ⟨b, o + k * 4, none⟩) hb).trans h0, (Below.cell hu (p := ⟨b, o + k * 4 + 1, none⟩) hb).trans h1, (Below.cell hu (p := ⟨b, o + k * 4 + 2, none⟩) hb).trans h2, (Below.cell hu (p := ⟨b, o + k * 4 + 3, none⟩) hb).trans h3⟩
/-- A slice of slices, each of which reads by R. -/
def RdR {α : Type} (R : World → Option Addr → List α → Prop) (w : World) (A : Option Addr) (l : List (List α)) : Prop :=
  l ≠ [] → ∃ b o, A = some ⟨b, o, none⟩ ∧ b < w.heap.size ∧ ∀ k, k < l.length → ∃ A' c, w.cell? ⟨b, o + k, none⟩ = some (.slice A' (l[k]?.getD []).length c) ∧ (l[k]?.getD []).length ≤ c ∧ R w A' (l[k]?.getD [])
theorem RdR.nil {α : Type} (R : World → Option Addr → List α → Prop) (w : World) (A : Option Addr) : RdR R w A [] := fun h => absurd rfl h
theorem RdR.up {α : Type} {R : World → Option Addr → List α → Prop} (hR : ∀ {w w' A l}, R w A l → Up w w' → R w' A l) {w w' : World} {A : Option Addr} {l : List (List α)} (h : RdR R w A l) (hu : Up w w') : RdR R w' A l := fun hl => by
  obtain ⟨b, o, rfl, hb, hc⟩ := h hl
  refine ⟨b, o, rfl, Nat.lt_of_lt_of_le hb hu.le, fun k hk => ?_⟩
  obtain ⟨A', c, h0, h1, h2⟩ := hc k hk
  exact ⟨A', c, (Below.cell hu (p := ⟨b, o + k, none⟩) hb).trans h0, h1, hR h2 hu⟩
theorem RdR.at {α : Type} {R : World → Option Addr → List α → Prop} {w : World} {A : Option Addr} {l : List (List α)} (h : RdR R w A l) (hl : 0 < l.length) : ∃ b o, A = some ⟨b, o, none⟩ ∧ b < w.heap.size ∧ ∀ k, k < l.length → ∃ A' c, w.cell? ⟨b, o + k, none⟩ = some (.slice A' (l[k]?.getD []).length c) ∧ (l[k]?.getD []).length ≤ c ∧ R w A' (l[k]?.getD []) :=
  h (fun e => by simp [e] at hl)
theorem RdT.at {w : World} {A : Option Addr} {l : List Tm} (h : RdT w A l) (hl : 0 < l.length) : ∃ b o, A = some ⟨b, o, none⟩ ∧ b < w.heap.size ∧ ∀ k, k < l.length → w.cell? ⟨b, o + k * 4, none⟩ = some (.int .i64 (l[k]?.getD default).by_) ∧ w.cell? ⟨b, o + k * 4 + 1, none⟩ = some (.int .i64 (l[k]?.getD default).t0) ∧
    w.cell? ⟨b, o + k * 4 + 2, none⟩ = some (.int .i64 (l[k]?.getD default).t1) ∧ w.cell? ⟨b, o + k * 4 + 3, none⟩ = some (.int .i64 (l[k]?.getD default).t2) :=
  h (fun e => by simp [e] at hl)
/-- Systems' polynomials; lists of lists of ints; lists of boxes. -/
abbrev RdN := RdR RdT
abbrev RdII := RdR RdI
abbrev RdB := RdR RdS
theorem RdN.up {w w' : World} {A : Option Addr} {l : List (List Tm)} (h : RdN w A l) (hu : Up w w') : RdN w' A l := RdR.up (R := RdT) RdT.up h hu
theorem RdII.up {w w' : World} {A : Option Addr} {l : List (List Int)} (h : RdII w A l) (hu : Up w w') : RdII w' A l := RdR.up (R := RdI) RdI.up h hu
theorem RdB.up {w w' : World} {A : Option Addr} {l : List (List Sp)} (h : RdB w A l) (hu : Up w w') : RdB w' A l := RdR.up (R := RdS) RdS.up h hu
/-- A slice of terms, as an argument. -/
structure LT (w : World) (A : Option Addr) (l : List Tm) (c : Nat) : Prop where
  rd : RdT w A l
  cap : l.length ≤ c
  max : c ≤ 9223372036854775807
  wf : ∀ t ∈ l, I64 t.by_ ∧ I64 t.t0 ∧ I64 t.t1 ∧ I64 t.t2
/-- A slice of lists of ints. -/
structure LII (w : World) (A : Option Addr) (l : List (List Int)) (c : Nat) : Prop where
  rd : RdII w A l
  cap : l.length ≤ c
  max : c ≤ 9223372036854775807
  wf : ∀ x ∈ l, x.length ≤ 9223372036854775807 ∧ ∀ n ∈ x, I64 n
/-- A system. -/
structure LY (w : World) (A B : Option Addr) (s : Sy) (c d : Nat) : Prop where
  next : RdN w A s.next
  push : RdS w B s.push
  cap : s.next.length ≤ c
  cap2 : s.push.length ≤ d
  max : c ≤ 9223372036854775807
  max2 : d ≤ 9223372036854775807
  wf : ∀ f ∈ s.next, f.length ≤ 9223372036854775807 ∧ ∀ t ∈ f, I64 t.by_ ∧ I64 t.t0 ∧ I64 t.t1 ∧ I64 t.t2
  wf2 : ∀ p ∈ s.push, I64 p.lo ∧ I64 p.hi
theorem LY.up {w w' : World} {A B : Option Addr} {s : Sy} {c d : Nat} (h : LY w A B s c d) (hu : Up w w') : LY w' A B s c d := ⟨RdN.up h.next hu, h.push.up hu, h.cap, h.cap2, h.max, h.max2, h.wf, h.wf2⟩
end Go.Proofs.YtafhcppigpjcpaaDoor
