/- The walk of flow.Wide. -/
import Derived.Test.YtknkpjfoaijaoaaFlow

set_option linter.unusedVariables false
set_option linter.unusedSimpArgs false
namespace Go.Proofs.Ytknkpjfoaijaoaa
open Go.RowKit

theorem cell_one_at (w : World) (x : Value) (t : TypeId) {n : Nat} (hn : n = w.heap.size) : ∀ j u, [x][j]? = some u → (w.alloc (.cells #[x] t)).cell? ((⟨n, 0, none⟩ : Addr).add j) = some u := by
  subst hn; exact cell_one_new _ _ _
theorem run_all {s : Sy} {b : List Sp} {n : Int} {l : List (List Sp)} (h : runF s b n = .ok l) : l.length ≤ 21 ∧ ∀ k, k < l.length → Bx (l[k]?.getD []) := by
  obtain ⟨h0, h20, k1, k2⟩ := run_parts h
  obtain ⟨hs, hb, hl⟩ := ready_good k1
  have := run_len _ b l k2
  exact ⟨by omega, fun k hk => (run_bx hs _ b l hb hl k2 _ (mem_getD hk)).1⟩
theorem wide_bd {b : List Sp} (h : Bx b) : widestF b < b.length ∧ Rt (b[widestF b]?.getD ⟨0, 0⟩) := by
  have h1 := widestF_lt h.pos
  exact ⟨h1, h.spans _ (mem_at h1)⟩
theorem take_map {l : List (List Sp)} {k : Nat} (h : k < l.length) : (l.take (k + 1)).map wideF1 = (l.take k).map wideF1 ++ [wideF1 (l[k]?.getD [])] := by
  rw [List.take_succ_eq_append_getElem h, List.map_append, List.getElem?_eq_getElem h]; rfl
end Go.Proofs.Ytknkpjfoaijaoaa
