/- The walks of package box that only read: Check, two, In, Within, Has. The walks of package box that only read: In, Within, Has. The walks of the reference's numbers: Floor, Ceil, Far0, Small. The walks of package spansame: Box. The walk of package spansame: Ints. Short slices whose cells are known. -/
import Derived.Test.YtomfbhohaiffpaaDoorSpan
import Derived.Test.YtomfbhohaiffpaaDoorBase
import Derived.LoopN
set_option linter.unusedVariables false
set_option linter.unusedSimpArgs false
namespace Go.Proofs.YtomfbhohaiffpaaDoor
open Go.RowKit

theorem RdS.at {w : World} {A : Option Addr} {l : List Sp} (h : RdS w A l) (hl : 0 < l.length) : ∃ b o, A = some ⟨b, o, none⟩ ∧ b < w.heap.size ∧ ∀ k, k < l.length → w.cell? ⟨b, o + k * 2, none⟩ = some (.int .i64 (l[k]?.getD ⟨0, 0⟩).lo) ∧ w.cell? ⟨b, o + k * 2 + 1, none⟩ = some (.int .i64 (l[k]?.getD ⟨0, 0⟩).hi) :=
  h (fun e => by simp [e] at hl)
theorem sdrop (l : List Sp) (k : Nat) (h : k < l.length) : l.drop k = (l[k]?.getD ⟨0, 0⟩) :: l.drop (k + 1) := by
  rw [List.drop_eq_getElem_cons h, List.getElem?_eq_getElem h]; rfl
theorem firstBad_some {s : Sp} {l : List Sp} {e : Nat} (h : checkF s = some e) : firstBad (s :: l) = some e := by unfold firstBad; rw [h]
theorem firstBad_none {s : Sp} {l : List Sp} (h : checkF s = none) : firstBad (s :: l) = firstBad l := by
  conv => lhs; unfold firstBad
  rw [h]
end Go.Proofs.YtomfbhohaiffpaaDoor

namespace Go.Proofs.YtomfbhohaiffpaaDoor
open Go.RowKit

theorem inF_no {s t : Sp} {a b : List Sp} (h : s.lo < t.lo ∨ t.hi < s.hi) : inF (s :: a) (t :: b) = false := by unfold inF; rw [if_pos h]
theorem inF_yes {s t : Sp} {a b : List Sp} (h : ¬ (s.lo < t.lo ∨ t.hi < s.hi)) : inF (s :: a) (t :: b) = inF a b := by
  conv => lhs; unfold inF
  rw [if_neg h]
theorem btwo_none {a b : List Sp} (h : btwoF a b = none) : bcheckF a = none ∧ bcheckF b = none ∧ a.length = b.length := by
  unfold btwoF at h
  split at h
  · cases h
  · split at h
    · cases h
    · split at h
      · exact ⟨by assumption, by assumption, by assumption⟩
      · cases h
theorem firstBad_all {l : List Sp} : firstBad l = none → ∀ s ∈ l, Rt s := by
  induction l with
  | nil => intro _ s hs; cases hs
  | cons t l ih =>
    intro h s hs
    unfold firstBad at h
    split at h
    · cases h
    · rename_i ht
      rcases List.mem_cons.1 hs with e | e
      · rw [e]; exact checkF_none.1 ht
      · exact ih h s e
theorem bcheck_none {l : List Sp} (h : bcheckF l = none) : 0 < l.length ∧ l.length ≤ 3 ∧ ∀ s ∈ l, Rt s := by
  unfold bcheckF at h
  split at h
  · cases h
  · split at h
    · cases h
    · exact ⟨by omega, by omega, firstBad_all h⟩
theorem hasG_no {s : Sp} {n : Int} {b : List Sp} {x : List Int} (h : n < s.lo ∨ s.hi < n) : hasG (s :: b) (n :: x) = false := by unfold hasG; rw [if_pos h]
theorem hasG_yes {s : Sp} {n : Int} {b : List Sp} {x : List Int} (h : ¬ (n < s.lo ∨ s.hi < n)) : hasG (s :: b) (n :: x) = hasG b x := by
  conv => lhs; unfold hasG
  rw [if_neg h]
theorem idrop (p : List Int) (k : Nat) (h : k < p.length) : p.drop k = (p[k]?.getD 0) :: p.drop (k + 1) := by
  rw [List.drop_eq_getElem_cons h, List.getElem?_eq_getElem h]; rfl
theorem RdI.at {w : World} {A : Option Addr} {l : List Int} (h : RdI w A l) (hl : 0 < l.length) : ∃ b o, A = some ⟨b, o, none⟩ ∧ b < w.heap.size ∧ ∀ k, k < l.length → w.cell? ⟨b, o + k, none⟩ = some (.int .i64 (l[k]?.getD 0)) :=
  h (fun e => by simp [e] at hl)
end Go.Proofs.YtomfbhohaiffpaaDoor

namespace Go.Proofs.YtomfbhohaiffpaaDoor
open Go.RowKit

theorem rfloor_any (n k : Int) (w : World) (hk : 0 < k) (h1 : -4000000000000000000 ≤ n) (h2 : n ≤ 4000000000000000000) (h3 : k ≤ 4000000000000000000) :
    Calls Tryd.prog 24 #[.int .i64 n, .int .i64 k] w fun e w' => e = .returned (.int .i64 (dn n k)) ∧ w = w' := by
  obtain ⟨_, _⟩ := tdiv_bd n k hk h1 h2
  go_enter Tryd.func24, Tryd.ntmps24
  go_wp2
  all_goals go_ret
  · exact ⟨by rw [floor_tdiv n k hk, if_pos (by assumption)]; rfl, rfl⟩
  · exact ⟨by rw [floor_tdiv n k hk, if_neg (by omega)]; rfl, rfl⟩
theorem ceil_tdiv (n k : Int) (hk : 0 < k) : up n k = if 0 < Int.tmod n k then Int.tdiv n k + 1 else Int.tdiv n k := by
  have h := floor_tdiv (-n) k hk
  unfold dn at h
  unfold up
  rw [h, Int.neg_tmod, Int.neg_tdiv]
  split <;> split <;> omega
theorem rceil_any (n k : Int) (w : World) (hk : 0 < k) (h1 : -4000000000000000000 ≤ n) (h2 : n ≤ 4000000000000000000) (h3 : k ≤ 4000000000000000000) :
    Calls Tryd.prog 25 #[.int .i64 n, .int .i64 k] w fun e w' => e = .returned (.int .i64 (up n k)) ∧ w = w' := by
  obtain ⟨_, _⟩ := tdiv_bd n k hk h1 h2
  go_enter Tryd.func25, Tryd.ntmps25
  go_wp2
  all_goals go_ret
  · exact ⟨by rw [ceil_tdiv n k hk, if_pos (by assumption)]; rfl, rfl⟩
  · exact ⟨by rw [ceil_tdiv n k hk, if_neg (by omega)]; rfl, rfl⟩
def far0F (n : Int) : Int := if n < 0 then -n else n
/-- Is it so small? -/
def Lit5 (n : Int) : Prop := -5000 ≤ n ∧ n ≤ 5000
instance (n : Int) : Decidable (Lit5 n) := by unfold Lit5; infer_instance
def smallB (p : List Int) (n : Int) : Bool := decide (1 ≤ p.length ∧ p.length ≤ 5 ∧ Lit5 n ∧ ∀ c ∈ p, Lit5 c)
theorem smallB_true {p : List Int} {n : Int} (h : smallB p n = true) : 0 < p.length ∧ p.length ≤ 5 ∧ Lit5 n ∧ ∀ c ∈ p, Lit5 c := by
  unfold smallB at h
  have := of_decide_eq_true h
  exact ⟨by omega, this.2.1, this.2.2⟩
theorem all5_split {p : List Int} {k : Nat} (hk : k < p.length) (h : ∀ c ∈ p.take k, Lit5 c) : (∀ c ∈ p.take (k + 1), Lit5 c) ↔ Lit5 (p[k]?.getD 0) := by
  rw [List.take_succ_eq_append_getElem hk]
  rw [show p[k]?.getD 0 = p[k] by simp [hk]]
  constructor
  · intro hh; exact hh _ (List.mem_append_right _ (List.mem_singleton.2 rfl))
  · intro hh c hc
    rcases List.mem_append.1 hc with e | e
    · exact h c e
    · simp at e; rw [e]; exact hh
end Go.Proofs.YtomfbhohaiffpaaDoor

namespace Go.Proofs.YtomfbhohaiffpaaDoor
open Go.RowKit

theorem take_eq_step {a b : List Sp} {k : Nat} (ha : k < a.length) (hb : k < b.length) (h : a.take k = b.take k) : a.take (k + 1) = b.take (k + 1) ↔ a[k]?.getD ⟨0, 0⟩ = b[k]?.getD ⟨0, 0⟩ := by
  rw [List.take_succ_eq_append_getElem ha, List.take_succ_eq_append_getElem hb, h, List.getElem?_eq_getElem ha, List.getElem?_eq_getElem hb, List.append_cancel_left_eq]
  simp only [List.cons.injEq, and_true, Option.getD_some]
theorem sp_eq {s t : Sp} : s = t ↔ s.lo = t.lo ∧ s.hi = t.hi := by
  constructor
  · intro h; rw [h]; exact ⟨rfl, rfl⟩
  · intro h; exact Sp.ext' h.1 h.2
end Go.Proofs.YtomfbhohaiffpaaDoor

namespace Go.Proofs.YtomfbhohaiffpaaDoor
open Go.RowKit

theorem take_eqI_step {a b : List Int} {k : Nat} (ha : k < a.length) (hb : k < b.length) (h : a.take k = b.take k) : a.take (k + 1) = b.take (k + 1) ↔ a[k]?.getD 0 = b[k]?.getD 0 := by
  rw [List.take_succ_eq_append_getElem ha, List.take_succ_eq_append_getElem hb, h, List.getElem?_eq_getElem ha, List.getElem?_eq_getElem hb, List.append_cancel_left_eq]
  simp only [List.cons.injEq, and_true, Option.getD_some]
end Go.Proofs.YtomfbhohaiffpaaDoor

namespace Go.Proofs.YtomfbhohaiffpaaDoor
open Go.RowKit

theorem rdi1 {W : World} {g : Nat} {a : Int} (ha : W.cell? ⟨g, 0, none⟩ = some (.int .i64 a)) : RdI W (some ⟨g, 0, none⟩) [a] := fun _ =>
  ⟨g, 0, rfl, World.block_lt_of_cell? W _ ha, fun k hk => by match k, hk with | 0, _ => exact ha⟩
theorem rdi2 {W : World} {g : Nat} {a b : Int} (ha : W.cell? ⟨g, 0, none⟩ = some (.int .i64 a)) (hb : W.cell? ⟨g, 1, none⟩ = some (.int .i64 b)) : RdI W (some ⟨g, 0, none⟩) [a, b] := fun _ =>
  ⟨g, 0, rfl, World.block_lt_of_cell? W _ ha, fun k hk => by match k, hk with | 0, _ => exact ha | 1, _ => exact hb⟩
theorem rdi3 {W : World} {g : Nat} {a b c : Int} (ha : W.cell? ⟨g, 0, none⟩ = some (.int .i64 a)) (hb : W.cell? ⟨g, 1, none⟩ = some (.int .i64 b)) (hc : W.cell? ⟨g, 2, none⟩ = some (.int .i64 c)) : RdI W (some ⟨g, 0, none⟩) [a, b, c] := fun _ =>
  ⟨g, 0, rfl, World.block_lt_of_cell? W _ ha, fun k hk => by match k, hk with | 0, _ => exact ha | 1, _ => exact hb | 2, _ => exact hc⟩
theorem rds1 {W : World} {g : Nat} {s : Sp} (h0 : W.cell? ⟨g, 0, none⟩ = some (.int .i64 s.lo)) (h1 : W.cell? ⟨g, 1, none⟩ = some (.int .i64 s.hi)) : RdS W (some ⟨g, 0, none⟩) [s] := fun _ =>
  ⟨g, 0, rfl, World.block_lt_of_cell? W _ h0, fun k hk => by match k, hk with | 0, _ => exact ⟨h0, h1⟩⟩
theorem rds2 {W : World} {g : Nat} {s t : Sp} (h0 : W.cell? ⟨g, 0, none⟩ = some (.int .i64 s.lo)) (h1 : W.cell? ⟨g, 1, none⟩ = some (.int .i64 s.hi)) (h2 : W.cell? ⟨g, 2, none⟩ = some (.int .i64 t.lo)) (h3 : W.cell? ⟨g, 3, none⟩ = some (.int .i64 t.hi)) :
    RdS W (some ⟨g, 0, none⟩) [s, t] := fun _ =>
  ⟨g, 0, rfl, World.block_lt_of_cell? W _ h0, fun k hk => by match k, hk with | 0, _ => exact ⟨h0, h1⟩ | 1, _ => exact ⟨h2, h3⟩⟩
end Go.Proofs.YtomfbhohaiffpaaDoor
