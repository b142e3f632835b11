/- What the bulk of a slice says of its length. -/
import Derived.Test.YtmjcnpolnknkkaaGreatDoorRow
import Derived.JoinedCond
set_option linter.unusedVariables false
set_option linter.unusedSimpArgs false
namespace Go.Proofs.YtmjcnpolnknkkaaGreatDoor
open Go.ChangeShapes Go.WideShapes Go.ChangeAt Go.RowKit Go.Joins Go.Deep

theorem uone_le {H : Type} (d : DataW H) : 1 ≤ Rows.uptoBulk d := by
  cases d with
  | lit l => cases l <;> simp [Rows.uptoBulk]
  | nil => simp [Rows.uptoBulk]
  | ptr d => simp [Rows.uptoBulk]
  | slice elems spare => simp [Rows.uptoBulk]
  | agg parts => simp [Rows.uptoBulk]
  | iface t d => simp [Rows.uptoBulk]
  | map entries => simp [Rows.uptoBulk]
  | held h => simp [Rows.uptoBulk]
theorem ulen_le {H : Type} (l : List (DataW H)) : l.length ≤ Rows.uptoBulkAll l := by
  induction l with
  | nil => simp [Rows.uptoBulkAll]
  | cons x r ih => have := uone_le x; simp only [Rows.uptoBulkAll, List.length_cons]; omega
theorem bulk_slice {H : Type} {enc : TypeId × Value → H} {P : Program} {W : World} {held : Bool} {t e : TypeId} {A : Option Addr} {n c : Nat} {d : DataW H} {p : List MemPlace} (ht : P.underlying t = some (.slice e))
    (h : DataW.Trod enc P W 0 (fun _ => true) held t (.slice A n c) d p) : n ≤ Rows.uptoBulk d := by
  obtain ⟨f, hf⟩ := h
  rcases DataW.trod_slice ht hf with ⟨h0, -⟩ | ⟨a, len, cap, elems, rest, m, _, h0, hx, hb, hl, hm, hlen, hel, hsp, hns⟩
  · simp [Value.cells] at h0
    omega
  · simp [Value.cells] at h0
    obtain ⟨-, rfl, -⟩ := h0
    simp only [Prod.mk.injEq] at hx
    rw [hx.1]
    simp only [Rows.uptoBulk]
    have := ulen_le (elems.map (·.1))
    rw [List.length_map] at this
    omega
end Go.Proofs.YtmjcnpolnknkkaaGreatDoor
