/- LogKeeps, the plain part: the marks behind each record; what a put comes to; the log beside the caller's two rows. -/
import Derived.Test.YtopgjbjpmnlldaaDoorLoga
import Derived.Test.YtopgjbjpmnlldaaDoorLoge
import Derived.Test.YtopgjbjpmnlldaaDoorRfb

set_option linter.unusedVariables false
set_option linter.unusedSimpArgs false
namespace Go.Proofs.YtopgjbjpmnlldaaDoor
open Go.RowKit

/-- How many bytes there are behind each record. -/
def marksF (rs : List (List UInt8)) : List Int := (List.range (rs.length + 1)).map fun i => ((joinR (rs.take i)).length : Int)
theorem marks_len (rs : List (List UInt8)) : (marksF rs).length = rs.length + 1 := by simp [marksF]
theorem marks_nil : marksF [] = [0] := rfl
theorem marks_at {rs : List (List UInt8)} {i : Nat} (h : i ≤ rs.length) : (marksF rs)[i]?.getD 0 = ((joinR (rs.take i)).length : Int) := by
  unfold marksF
  rw [List.getElem?_map, List.getElem?_range (by omega)]
  rfl
theorem marks_snoc (rs : List (List UInt8)) (r : List UInt8) : marksF (rs ++ [r]) = marksF rs ++ [((joinR (rs ++ [r])).length : Int)] := by
  apply List.ext_getElem?
  intro i
  rcases Nat.lt_trichotomy i (rs.length + 1) with h | h | h
  · rw [List.getElem?_append_left (by rw [marks_len]; exact h)]
    unfold marksF
    rw [List.getElem?_map, List.getElem?_map, List.getElem?_range (by simp; omega), List.getElem?_range (by omega)]
    simp only [Option.map_some]
    rw [List.take_append_of_le_length (by omega)]
  · subst h
    rw [List.getElem?_append_right (by rw [marks_len]; exact Nat.le_refl _), marks_len, Nat.sub_self]
    unfold marksF
    rw [List.getElem?_map, List.getElem?_range (by simp)]
    simp only [Option.map_some, List.getElem?_cons_zero]
    rw [List.take_of_length_le (by simp)]
  · rw [List.getElem?_eq_none (by rw [marks_len]; simp; omega), List.getElem?_eq_none (by simp [marks_len]; omega)]
theorem marks_take {rs : List (List UInt8)} {c : Nat} (h : c ≤ rs.length) : marksF (rs.take c) = (marksF rs).take (c + 1) := by
  unfold marksF
  have e : (rs.take c).length = c := by rw [List.length_take]; omega
  rw [e, ← List.map_take, List.take_range, Nat.min_eq_left (by omega)]
  apply List.map_congr_left
  intro i hi
  have hi' : i < c + 1 := List.mem_range.1 hi
  rw [List.take_take, Nat.min_eq_left (by omega)]
/-- What is told to be wrong with a box that is to be put, where nothing has stopped. -/
def putE (l : Lg) (b : List Sp) : Option Nat := if 20 ≤ l.all.length then some 4 else match bcheckF b with
  | some n => some n
  | none => if (b.length : Int) ≠ l.sides then some 3 else none
theorem text_put {l : Lg} (h : l.part = []) (r : List UInt8) : joinR (l.recs ++ [r]) = l.text ++ (r ++ [10]) := by
  rw [joinR_app]; unfold Lg.text; rw [h]; simp [joinR]
theorem recN_pos {b : List Sp} (h : 0 < b.length) : 1 ≤ (recN b).length := by
  cases b with
  | nil => simp at h
  | cons s b =>
    unfold recN
    rw [toks, List.flatMap_cons]
    show 1 ≤ (Lib.join (Lib.itoa s.lo :: (Lib.itoa s.hi :: toks b)) [32]).length
    rw [Lib.join_cons]
    show 1 ≤ (Lib.itoa s.lo ++ ([32] ++ Lib.itoa s.hi ++ Lib.joinTail [32] (toks b))).length
    simp
    omega
theorem put_three {l : Lg} (hok : l.Ok) (b : List Sp) :
    (∃ l', putF l b = (some 6, l') ∧ l'.all = l.all ∧ l'.recs = l.recs ∧ l'.sides = l.sides) ∨
    (∃ e, putE l b = some e ∧ putF l b = (some e, l)) ∨
    (putE l b = none ∧ bcheckF b = none ∧ ∃ l', putF l b = (none, l') ∧ l'.all = l.all ++ [b] ∧ l'.recs = l.recs ++ [recN b] ∧ l'.text = joinR (l.recs ++ [recN b]) ∧ l.text.length + 2 ≤ l'.text.length ∧ l'.sides = l.sides) := by
  rcases put_cases l b with ⟨hs, e⟩ | ⟨hs, h2, e⟩ | ⟨hs, h2, ⟨n, hc, e⟩ | ⟨hc, ⟨hn, e⟩ | ⟨hn, ⟨h0, e⟩ | ⟨h0, e⟩⟩⟩⟩
  · exact .inl ⟨l, e, rfl, rfl, rfl⟩
  · exact .inr (.inl ⟨4, by unfold putE; rw [if_pos h2], e⟩)
  · exact .inr (.inl ⟨n, by unfold putE; rw [if_neg (by omega), hc], e⟩)
  · exact .inr (.inl ⟨3, by unfold putE; rw [if_neg (by omega), hc]; dsimp only; rw [if_pos hn], e⟩)
  · exact .inl ⟨_, e, rfl, rfl, rfl⟩
  · have hw := hok.whole hs
    have ht : ({ stepF l with recs := l.recs ++ [recN b], all := l.all ++ [b] } : Lg).text = joinR (l.recs ++ [recN b]) := by
      show joinR (l.recs ++ [recN b]) ++ l.part = _
      rw [hw, List.append_nil]
    have hp := recN_pos (bcheck_bx hc).pos
    refine .inr (.inr ⟨by unfold putE; rw [if_neg (by omega), hc]; dsimp only; rw [if_neg (by omega)], hc, _, e, rfl, rfl, ht, ?_, rfl⟩)
    rw [ht, text_put hw]
    simp only [List.length_append, List.length_cons, List.length_nil]
    omega
/-- A sync: it stops, or all is safe. -/
theorem sync_two (l : Lg) : (∃ l', syncF l = (some 6, l') ∧ l'.all = l.all ∧ l'.recs = l.recs ∧ l'.sides = l.sides) ∨
    (∃ l', syncF l = (none, l') ∧ l'.all = l.all ∧ l'.recs = l.recs ∧ l'.sides = l.sides ∧ l'.safe = l'.text.length) := by
  unfold syncF
  by_cases h : l.stopped = true
  · rw [if_pos h]; exact .inl ⟨l, rfl, rfl, rfl, rfl⟩
  · rw [if_neg h]
    by_cases h0 : l.left = 0
    · rw [if_pos h0]; exact .inl ⟨_, rfl, rfl, rfl, rfl⟩
    · rw [if_neg h0]; exact .inr ⟨_, rfl, rfl, rfl, rfl, rfl⟩
/-- What a call's own row holds stays where the log turns. -/
theorem own_mod {w w' : World} {base : Nat} {e : TypeId} {size : Nat} {r v : Value} {n g : Nat} {xs : List Value} (h : w.ownsRow base e size r n xs) (hm : Mod g v w w') (hne : ∀ k, r.ownBlock = some k → k ≠ g ∧ v.ownBlock ≠ some k) : w'.ownsRow base e size r n xs := by
  obtain ⟨h1, h2⟩ := h
  refine ⟨h1, ?_⟩
  rcases h2 with h2 | ⟨k, cap, cur, hv, hb, hg, hr⟩
  · exact .inl h2
  · obtain ⟨n1, n2⟩ := hne k (by rw [hv]; rfl)
    exact .inr ⟨k, cap, cur, hv, hb, (hm.block k (Array.getElem?_eq_some_iff.1 hg).1 n1 n2).trans hg, hr⟩
/-- The log in block g beside the caller's rows: done (of boxes that lie as they lay in w), and marks. -/
structure KS (Q : Nat → Prop) (w W : World) (g : Nat) (v vd vm : Value) (l : Lg) (L : List (List Sp)) (R : List (List UInt8)) : Prop where
  log : LogS Q W g v l
  since : Up w W
  gw : w.heap.size ≤ g
  done : OwnR 35 (fun _ => RdS w) W (g + 1) vd L
  marks : OwnI W (g + 1) vm (marksF R)
  qd : ∀ k, vd.ownBlock = some k → Q k
  qm : ∀ k, vm.ownBlock = some k → Q k ∧ vd.ownBlock ≠ some k
theorem keepsW (w : World) : Keeps (fun (_ : World) (A : Option Addr) (l : List Sp) => RdS w A l) := ⟨fun h _ => h, fun h _ _ => h⟩
theorem KS.up {Q : Nat → Prop} {w W W' : World} {g : Nat} {v vd vm : Value} {l : Lg} {L : List (List Sp)} {R : List (List UInt8)} (h : KS Q w W g v vd vm l L R) (hu : Up W W') : KS Q w W' g v vd vm l L R :=
  ⟨h.log.up hu, h.since.call hu, h.gw, h.done.up (keepsW w) hu, h.marks.up hu, h.qd, h.qm⟩
theorem KS.on {Q : Nat → Prop} {w W W' : World} {g : Nat} {v v' vd vm : Value} {l l' : Lg} {L : List (List Sp)} {R : List (List UInt8)} (h : KS Q w W g v vd vm l L R) (hl : LogS Q W' g v' l') (hm : Mod g v W W') : KS Q w W' g v' vd vm l' L R := by
  have hd : ∀ k, vd.ownBlock = some k → k ≠ g ∧ v.ownBlock ≠ some k := fun k hk => ⟨by have := (h.done.lt k hk).1; omega, fun e => h.log.vq k e (h.qd k hk)⟩
  have hmm : ∀ k, vm.ownBlock = some k → k ≠ g ∧ v.ownBlock ≠ some k := fun k hk => ⟨by have := (h.marks.lt k hk).1; omega, fun e => h.log.vq k e (h.qm k hk).1⟩
  refine ⟨hl, hm.below h.since h.gw (fun k hk => by have := (h.log.gt k hk).1; have := h.gw; omega), h.gw, ?_, own_mod h.marks hm hmm, h.qd, h.qm⟩
  obtain ⟨vs, h1, h2⟩ := h.done
  refine ⟨vs, own_mod h1 hm hd, fun k hk => ?_⟩
  obtain ⟨A, c, q1, q2, q3, q4⟩ := h2 k hk
  exact ⟨A, c, q1, q2, q3, fun b o e => ⟨Nat.lt_of_lt_of_le (q4 b o e).1 hm.size, (q4 b o e).2⟩⟩
/-- The log, where a row of the caller's grows. -/
theorem LogS.grow {Q Q' : Nat → Prop} {W W' : World} {g : Nat} {v : Value} {l : Lg} {row : Option Nat} (h : LogS Q W g v l) (hg : W.grownBy W' row) (hr : ∀ k, row = some k → Q k ∧ k ≠ g) (hq : ∀ b, Q' b → Q b ∨ (W.heap.size ≤ b ∧ b < W'.heap.size)) (hq2 : Q' g) : LogS Q' W' g v l := by
  have hrg : row ≠ some g := fun e => (hr g e).2 rfl
  have hvr : v.ownBlock = none ∨ v.ownBlock ≠ row := by
    by_cases e : v.ownBlock = row
    · cases hrow : row with
      | none => exact .inl (e.trans hrow)
      | some k => exact absurd (hr k hrow).1 (h.vq k (e.trans hrow))
    · exact .inr e
  have hc : ∀ {o : Nat} {u : Value}, Cf W g o u → Cf W' g o u := fun c => Cf.keep c hg hrg
  refine ⟨⟨hc h.cells.c0, hc h.cells.c1, hc h.cells.c2, hc h.cells.c3, hc h.cells.c4, hc h.cells.c5⟩, ?_, h.ok, hq2, ?_, ?_⟩
  · obtain ⟨vs, h1, h2⟩ := h.own
    refine ⟨vs, World.ownsRow.kept h1 hg hvr, fun k hk => ?_⟩
    obtain ⟨A, c, q1, q2, ⟨q3, q5⟩, q4⟩ := h2 k hk
    refine ⟨A, c, q1, q2, ⟨keepsS.grown q3 hg (fun b o e e2 => q5 b o e (hr b e2).1), fun b o e hb => ?_⟩, fun b o e => ⟨Nat.lt_of_lt_of_le (q4 b o e).1 hg.size, (q4 b o e).2⟩⟩
    rcases hq b hb with h9 | h9
    · exact q5 b o e h9
    · have := (q4 b o e).1; omega
  · intro b hb
    rcases hq b hb with h9 | h9
    · exact Nat.lt_of_lt_of_le (h.low b h9) hg.size
    · exact h9.2
  · intro k hk hb
    rcases hq k hb with h9 | h9
    · exact h.vq k hk h9
    · have := (h.gt k hk).2; omega
/-- A box more is done. -/
theorem KS.addD {Q : Nat → Prop} {w W W2 : World} {g : Nat} {v vd vm vd' : Value} {l : Lg} {L : List (List Sp)} {R : List (List UInt8)} {b : List Sp} {A : Option Addr} {c : Nat} {vs : List Value} (h : KS Q w W g v vd vm l L R)
    (hvs : ∀ k, k < L.length → ∃ A c, vs[k]? = some (.slice A (L[k]?.getD []).length c) ∧ (L[k]?.getD []).length ≤ c ∧ RdS w A (L[k]?.getD []) ∧ ∀ b o, A = some ⟨b, o, none⟩ → b < W.heap.size ∧ vd.ownBlock ≠ some b)
    (hb : RdS w A b) (hb0 : 0 < b.length) (hc : b.length ≤ c) (hlen : vs.length = L.length) (ob : Obj)
    (hown : W2.ownsRow (g + 1) 35 1 vd' (L.length + 1) (vs ++ [.slice A b.length c])) (hg : (W.alloc ob).grownBy W2 vd.ownBlock) (hat : vd'.ownBlock = vd.ownBlock ∨ vd'.ownBlock = some (W.alloc ob).heap.size) :
    ∃ Q', KS Q' w W2 g v vd' vm l (L ++ [b]) R := by
  have hu : Up W (W.alloc ob) := (Up.refl W).alloc ob
  have hW := h.up hu
  have hsz : W.heap.size ≤ (W.alloc ob).heap.size := hu.le
  have hvl : ∀ k, vd.ownBlock = some k → Q k ∧ k ≠ g := fun k hk => ⟨h.qd k hk, by have := (h.done.lt k hk).1; omega⟩
  have hdone : OwnR 35 (fun _ => RdS w) W2 (g + 1) vd' (L ++ [b]) := by
    refine OwnR.snoc (w := W.alloc ob) (keepsW w) (fun k hk => ?_) hb hc (fun k o e => ?_) hlen hown hg hat
    · obtain ⟨A', c', q1, q2, q3, q4⟩ := hvs k hk
      exact ⟨A', c', q1, q2, q3, fun b o e => ⟨Nat.lt_of_lt_of_le (q4 b o e).1 hsz, (q4 b o e).2⟩⟩
    · obtain ⟨b', o', e', hb', -⟩ := hb.at hb0
      rw [e] at e'
      injection e' with e'
      injection e' with e1 e2
      have h1 : k < w.heap.size := by omega
      have h2 := h.since.le
      refine ⟨by omega, fun e2 => ?_⟩
      have := (h.done.lt k e2).1
      have := h.gw
      omega
  have hnew : ∀ k, vd'.ownBlock = some k → vd.ownBlock = some k ∨ ((W.alloc ob).heap.size = k ∧ k < W2.heap.size) := fun k hk => by
    rcases hat with e | e
    · exact .inl (e.symm.trans hk)
    · rw [e] at hk
      injection hk with hk
      exact .inr ⟨hk, (hdone.lt k (e.trans (by rw [hk]))).2⟩
  refine ⟨fun k => Q k ∨ vd'.ownBlock = some k, hW.log.grow hg hvl (fun k hk => ?_) (.inl h.log.qg), ?_, h.gw, hdone, World.ownsRow.kept hW.marks hg ?_, fun k hk => .inr hk, fun k hk => ⟨.inl (h.qm k hk).1, fun e => ?_⟩⟩
  · rcases hk with hk | hk
    · exact .inl hk
    · rcases hnew k hk with e | e
      · exact .inl (h.qd k e)
      · exact .inr ⟨by omega, e.2⟩
  · exact Below.grown hW.since hg (Nat.le_trans h.since.le hsz) (fun k hk => by have := (h.done.lt k hk).1; have := h.gw; omega)
  · by_cases e : vm.ownBlock = vd.ownBlock
    · cases hm : vm.ownBlock with
      | none => exact .inl rfl
      | some k => exact absurd (e.symm.trans hm) (h.qm k hm).2
    · exact .inr e
  · rcases hnew k e with e2 | e2
    · exact (h.qm k hk).2 e2
    · have := (h.marks.lt k hk).2
      omega
/-- A mark more. -/
theorem KS.addM {Q : Nat → Prop} {w W W2 : World} {g : Nat} {v vd vm vm' : Value} {l : Lg} {L : List (List Sp)} {R : List (List UInt8)} {r : List UInt8} {n : Int} (h : KS Q w W g v vd vm l L R) (ob : Obj) (hn : ((joinR (R ++ [r])).length : Int) = n)
    (hown : W2.ownsRow (g + 1) 3 1 vm' ((marksF R).length + 1) (ints (marksF R) ++ [.int .i64 n])) (hg : (W.alloc ob).grownBy W2 vm.ownBlock) (hat : vm'.ownBlock = vm.ownBlock ∨ vm'.ownBlock = some (W.alloc ob).heap.size) :
    ∃ Q', KS Q' w W2 g v vd vm' l L (R ++ [r]) := by
  have hu : Up W (W.alloc ob) := (Up.refl W).alloc ob
  have hW := h.up hu
  have hsz : W.heap.size ≤ (W.alloc ob).heap.size := hu.le
  have hvl : ∀ k, vm.ownBlock = some k → Q k ∧ k ≠ g := fun k hk => ⟨(h.qm k hk).1, by have := (h.marks.lt k hk).1; omega⟩
  have hmarks : OwnI W2 (g + 1) vm' (marksF (R ++ [r])) := by
    rw [marks_snoc, hn]
    exact OwnI.snoc hown
  have hnew : ∀ k, vm'.ownBlock = some k → vm.ownBlock = some k ∨ ((W.alloc ob).heap.size = k ∧ k < W2.heap.size) := fun k hk => by
    rcases hat with e | e
    · exact .inl (e.symm.trans hk)
    · rw [e] at hk
      injection hk with hk
      exact .inr ⟨hk, (hmarks.lt k (e.trans (by rw [hk]))).2⟩
  have hvd : vd.ownBlock = none ∨ vd.ownBlock ≠ vm.ownBlock := by
    by_cases e : vd.ownBlock = vm.ownBlock
    · cases hm : vm.ownBlock with
      | none => exact .inl (e.trans hm)
      | some k => exact absurd (e.trans hm) (h.qm k hm).2
    · exact .inr e
  refine ⟨fun k => Q k ∨ vm'.ownBlock = some k, hW.log.grow hg hvl (fun k hk => ?_) (.inl h.log.qg), ?_, h.gw, ?_, hmarks, fun k hk => .inl (h.qd k hk), fun k hk => ⟨.inr hk, fun e => ?_⟩⟩
  · rcases hk with hk | hk
    · exact .inl hk
    · rcases hnew k hk with e | e
      · exact .inl (h.qm k e).1
      · exact .inr ⟨by omega, e.2⟩
  · exact Below.grown hW.since hg (Nat.le_trans h.since.le hsz) (fun k hk => by have := (h.marks.lt k hk).1; have := h.gw; omega)
  · obtain ⟨vs, h1, h2⟩ := hW.done
    refine ⟨vs, World.ownsRow.kept h1 hg hvd, fun k hk => ?_⟩
    obtain ⟨A, c, q1, q2, q3, q4⟩ := h2 k hk
    exact ⟨A, c, q1, q2, q3, fun b o e => ⟨Nat.lt_of_lt_of_le (q4 b o e).1 hg.size, (q4 b o e).2⟩⟩
  · rcases hnew k hk with e2 | e2
    · exact (h.qm k e2).2 e
    · have := (h.done.lt k e).2
      omega
/-- Behind a crash: both rows, cut. -/
theorem KS.cut {Q : Nat → Prop} {w W : World} {g : Nat} {v : Value} {A B : Option Addr} {n c m d k : Nat} {l : Lg} {L : List (List Sp)} {R : List (List UInt8)} (h : KS Q w W g v (.slice A n c) (.slice B m d) l L R) (hL : k ≤ L.length) (hR : k ≤ R.length) : KS Q w W g v (.slice A k c) (.slice B (k + 1) d) l (L.take k) (R.take k) := by
  refine ⟨h.log, h.since, h.gw, h.done.cut hL, ?_, fun b hb => h.qd b (by revert hb; cases A <;> exact id), fun b hb => ?_⟩
  · have hm := h.marks
    unfold OwnI at hm ⊢
    rw [marks_take hR]
    obtain ⟨hl, h3⟩ := hm
    have hml := marks_len R
    have e4 : ((marksF R).take (k + 1)).length = k + 1 := by rw [List.length_take]; omega
    have e5 : ints ((marksF R).take (k + 1)) = (ints (marksF R)).take (k + 1) := by simp [ints, List.map_take]
    rw [e4, e5]
    refine ⟨by rw [List.length_take, hl]; omega, ?_⟩
    rcases h3 with ⟨e, h0⟩ | ⟨g', cap, cur, hv, hg, hh, hn, hcap, hsz, htake⟩
    · omega
    · right
      injection hv with e1 e2 e3
      subst e1 e3
      refine ⟨g', d, cur, rfl, hg, hh, by omega, hcap, hsz, ?_⟩
      have h5 : (cur.toList.take ((marksF R).length * 1)).take ((k + 1) * 1) = (ints (marksF R)).take ((k + 1) * 1) := by rw [htake]
      rw [List.take_take, Nat.min_eq_left (by omega)] at h5
      simpa using h5
  · have h1 := h.qm b (by revert hb; cases B <;> exact id)
    exact ⟨h1.1, by have h9 := h1.2; revert h9; cases A <;> exact id⟩
/-- What a call upon the log comes to, beside both rows. -/
def RetK (Q : Nat → Prop) (w : World) (g : Nat) (vd vm r : Value) (l' : Lg) (L : List (List Sp)) (R : List (List UInt8)) (e : Ending) (W' : World) : Prop := ∃ v', e = .returned r ∧ KS Q w W' g v' vd vm l' L R
theorem RetL.k {Q : Nat → Prop} {w W : World} {g : Nat} {v vd vm r : Value} {l l' : Lg} {L : List (List Sp)} {R : List (List UInt8)} {e : Ending} {W' : World} (h : KS Q w W g v vd vm l L R) (hr : RetL Q g v W r l' e W') : RetK Q w g vd vm r l' L R e W' := by
  obtain ⟨v', e1, h1, h2, -⟩ := hr
  exact ⟨v', e1, h.on h1 h2⟩
section
variable {Q : Nat → Prop} {w W : World} {g : Nat} {v vd vm : Value} {l l' : Lg} {L : List (List Sp)} {R : List (List UInt8)}
theorem fail_K (n : Int) (h : KS Q w W g v vd vm l L R) (hn : I64 n) : Calls Tryd.prog 17 #[.pointer (some ⟨g, 0, none⟩), .int .i64 n] W (RetK Q w g vd vm (.tuple #[]) (failF l n) L R) :=
  (fail_any g v l n W h.log hn).mono fun _ _ hr => RetL.k h hr
theorem crash_K (n : Int) (h : KS Q w W g v vd vm l L R) (hn : I64 n) : Calls Tryd.prog 19 #[.pointer (some ⟨g, 0, none⟩), .int .i64 n] W (RetK Q w g vd vm (.tuple #[]) (crashF l n) L R) :=
  (crash_any g v l n W h.log hn).mono fun _ _ hr => RetL.k h hr
theorem sync_K {r : Option Nat} (h : KS Q w W g v vd vm l L R) (hs : syncF l = (r, l')) : Calls Tryd.prog 18 #[.pointer (some ⟨g, 0, none⟩)] W (RetK Q w g vd vm (errV r) l' L R) :=
  (sync_any g v l W h.log).mono fun _ _ hr => by rw [hs] at hr; exact RetL.k h hr
theorem put_K {b : List Sp} {r : Option Nat} {A : Option Addr} {c : Nat} (h : KS Q w W g v vd vm l L R) (hs : putF l b = (r, l')) (hb : RdS w A b) (hp : Pow w) :
    Calls Tryd.prog 13 #[.pointer (some ⟨g, 0, none⟩), .slice A b.length c] W (RetK Q w g vd vm (errV r) l' L R) :=
  (put_any g v l A b c W h.log (hb.up h.since) (fun h0 k o e => by
    obtain ⟨b', o', e', hb', -⟩ := hb.at h0
    rw [e] at e'
    injection e' with e'
    injection e' with e1 e2
    have := h.gw
    omega) (hp.up h.since)).mono fun _ _ hr => by rw [hs] at hr; exact RetL.k h hr
/-- How both rows look. -/
theorem KS.shape (h : KS Q w W g v vd vm l L R) : (∃ A c, vd = .slice A L.length c ∧ L.length ≤ c) ∧ ∃ B d, vm = .slice B (R.length + 1) d ∧ R.length + 1 ≤ d := by
  obtain ⟨A, c, e1, -, e2⟩ := h.done.rd
  obtain ⟨B, d, e3, -, e4⟩ := h.marks.rd
  rw [marks_len] at e3 e4
  exact ⟨⟨A, c, e1, e2⟩, ⟨B, d, e3, e4⟩⟩
theorem KS.rdD {A : Option Addr} {n c : Nat} (h : KS Q w W g v (.slice A n c) vm l L R) : RdR RdS W A L ∧ n = L.length := by
  obtain ⟨A', c', e1, h1, -⟩ := h.done.rd
  injection e1 with e1 e2 e3
  subst e1
  refine ⟨fun hl => ?_, e2⟩
  obtain ⟨b, o, e, hb, hc⟩ := h1 hl
  refine ⟨b, o, e, hb, fun k hk => ?_⟩
  obtain ⟨A', c, q1, q2, q3⟩ := hc k hk
  exact ⟨A', c, q1, q2, RdS.up q3 h.since⟩
theorem KS.rdM {A : Option Addr} {n c : Nat} (h : KS Q w W g v vd (.slice A n c) l L R) : ∃ b o, A = some ⟨b, o, none⟩ ∧ b < W.heap.size ∧ ∀ j, j ≤ R.length → W.cell? ⟨b, o + j, none⟩ = some (.int .i64 ((joinR (R.take j)).length : Nat)) := by
  obtain ⟨A', c', e1, h1, -⟩ := h.marks.rd
  injection e1 with e1 e2 e3
  subst e1
  obtain ⟨b, o, e, hb, hc⟩ := h1.at (by rw [marks_len]; omega)
  refine ⟨b, o, e, hb, fun j hj => ?_⟩
  have := hc j (by rw [marks_len]; omega)
  rw [marks_at hj] at this
  exact this
end
/-- The log's own facts beside both rows. -/
structure Beside (s : Int) (l : Lg) (L : List (List Sp)) (R : List (List UInt8)) : Prop where
  all : l.all = L
  recs : l.recs = R
  sides : l.sides = s
theorem joinR_le {rs : List (List UInt8)} (h : ∀ r ∈ rs, r.length ≤ 126 ∧ ∀ x ∈ r, x ≠ 10) (hf : rs.length ≤ 20) (j : Nat) : (joinR (rs.take j)).length ≤ 2540 := by
  have h1 := joinR_len (l := rs.take j) (fun r hr => h r (List.mem_of_mem_take hr))
  have h2 : (rs.take j).length ≤ 20 := by rw [List.length_take]; omega
  omega
theorem putE_num {l : Lg} {b : List Sp} {e : Nat} (h : putE l b = some e) : e = 5 ∨ e = 4 ∨ e = 1 ∨ e = 3 := by
  unfold putE at h
  split at h
  · injection h with h; omega
  · split at h
    · rename_i n hn
      injection h with h; subst h
      exact bcheck_num hn
    · split at h
      · injection h with h; omega
      · cases h
def restE (s : Int) (b : List Sp) : Option Nat → Option Nat
  | some n => some n
  | none => if (b.length : Int) ≠ s then some 3 else none
theorem putE_of {s : Int} {l : Lg} {L : List (List Sp)} {R : List (List UInt8)} (hB : Beside s l L R) {b : List Sp} {E : Option Nat} (hE : (if 20 ≤ L.length then some 4 else bcheckF b) = E) : putE l b = restE s b E := by
  rw [← hE]
  unfold putE
  rw [hB.all, hB.sides]
  by_cases h : 20 ≤ L.length
  · rw [if_pos h, if_pos h]; rfl
  · rw [if_neg h, if_neg h]
    cases bcheckF b <;> rfl
theorem e1_num {L : List (List Sp)} {b : List Sp} {n : Nat} (h : (if 20 ≤ L.length then some 4 else bcheckF b) = some n) : n = 5 ∨ n = 4 ∨ n = 1 ∨ n = 3 := by
  split at h
  · injection h with h; omega
  · exact bcheck_num h
theorem own_le {l : Lg} (h : l.Ok) : ∀ x ∈ l.all, x.length ≤ 9223372036854775807 := fun x hx => by have := (h.boxes x hx).1.few; omega
/-- What a crash keeps, the two rows beside it. -/
theorem keepN_cases {l : Lg} (h : l.safe ≤ l.text.length) (kp : Int) : (0 < kp → kp < (l.text.length : Int) - l.safe → (keepN l kp : Int) = l.safe + kp) ∧ (0 < kp → ¬ kp < (l.text.length : Int) - l.safe → (keepN l kp : Int) = l.text.length) ∧ (¬ 0 < kp → (keepN l kp : Int) = l.safe) := by
  unfold keepN
  refine ⟨fun h1 h2 => ?_, fun h1 h2 => ?_, fun h1 => ?_⟩ <;> omega
theorem crash_beside {s : Int} {l : Lg} {L : List (List Sp)} {R : List (List UInt8)} (hB : Beside s l L R) (hok : l.Ok) (kp : Int) : ∃ (L3 : List (List Sp)) (R3 : List (List UInt8)), L.take L3.length = L3 ∧ R.take L3.length = R3 ∧ R3.length = L3.length ∧ L3.length ≤ L.length ∧ L3.length ≤ R.length ∧ Beside s (crashF l kp) L3 R3 ∧ (crashF l kp).text.length = (joinR (R.take L3.length)).length ∧ (crashF l kp).safe = (joinR (R.take L3.length)).length ∧ ∀ i, i ≤ R.length → ((joinR (R.take i)).length ≤ keepN l kp ↔ i ≤ L3.length) := by
  have hr := hok.recs
  rw [hB.recs, hB.all] at hr
  obtain ⟨c, hc⟩ : ∃ c, wholeN R (keepN l kp) = c := ⟨_, rfl⟩
  have hcR := whole_le R (keepN l kp)
  rw [hc] at hcR
  have e3 : (L.take c).length = c := by rw [List.length_take]; omega
  refine ⟨L.take c, R.take c, by rw [e3], by rw [e3], by rw [e3, List.length_take]; omega, by omega, by omega, ⟨?_, ?_, hB.sides⟩, ?_, ?_, fun i hi => by rw [e3, whole_mark i R _ hi, hc]⟩
  · show l.all.take (wholeN l.recs (keepN l kp)) = _
    rw [hB.all, hB.recs, hc]
  · show l.recs.take (wholeN l.recs (keepN l kp)) = _
    rw [hB.recs, hc]
  · rw [e3]
    show (joinR (l.recs.take (wholeN l.recs (keepN l kp))) ++ []).length = _
    rw [hB.recs, hc, List.append_nil]
  · rw [e3]
    show (joinR (l.recs.take (wholeN l.recs (keepN l kp)))).length = _
    rw [hB.recs, hc]
/-- The hull of the first j boxes, as the law sums it up. -/
def wantG (L : List (List Sp)) (j : Nat) : List Sp := if j = 0 then [] else hullG (L[0]?.getD []) (L.take j)
theorem bself : ∀ b : List Sp, bbothF b b = b
  | [] => rfl
  | s :: b => by
    show bothF s s :: bbothF b b = _
    rw [bself b]
    simp [bothF]
theorem want_one {L : List (List Sp)} (h : 0 < L.length) : wantG L 1 = L[0]?.getD [] := by
  cases L with
  | nil => simp at h
  | cons x r => show bbothF x x = x; exact bself x
theorem want_succ {L : List (List Sp)} {j : Nat} (h0 : 0 < j) (h : j < L.length) : wantG L (j + 1) = bbothF (wantG L j) (L[j]?.getD []) := by
  unfold wantG
  rw [if_neg (by omega), if_neg (by omega), hull_take h]
theorem want_hull {L : List (List Sp)} (h : 0 < L.length) : hullF L = .ok (wantG L L.length) := by
  cases L with
  | nil => simp at h
  | cons x r =>
    unfold wantG
    rw [if_neg (by simp), List.take_length]
    rfl
theorem want_len {L : List (List Sp)} {n : Nat} (h : ∀ y ∈ L, y.length = n) : ∀ j, 0 < j → j ≤ L.length → (wantG L j).length = n
  | 0, h0, _ => absurd h0 (by omega)
  | 1, _, h1 => by
    rw [want_one (by omega), List.getElem?_eq_getElem (by omega)]
    exact h _ (List.getElem_mem _)
  | j + 2, _, h1 => by
    have hl : (L[j + 1]?.getD []).length = n := by
      rw [List.getElem?_eq_getElem (by omega)]
      exact h _ (List.getElem_mem _)
    have hw := want_len h (j + 1) (by omega) (by omega)
    rw [want_succ (by omega) (by omega), bbothF_len (by rw [hw, hl]), hw]
theorem box_sides {s : Int} {l : Lg} {L : List (List Sp)} {R : List (List UInt8)} (hB : Beside s l L R) (hok : l.Ok) : ∀ y ∈ L, Bx y ∧ y.length = s.toNat := fun y hy => by
  obtain ⟨h1, h2⟩ := hok.boxes y (hB.all ▸ hy)
  rw [hB.sides] at h2
  exact ⟨h1, by omega⟩
/-- What a put comes to, beside both rows. -/
theorem put_r {s : Int} {l : Lg} {L : List (List Sp)} {R : List (List UInt8)} (hB : Beside s l L R) (hok : l.Ok) (b : List Sp) : ∃ r l2, putF l b = (r, l2) ∧ (numO r = 6 ∨ numO r = numO (putE l b)) ∧ (∀ n, r = some n → Beside s l2 L R) ∧ (r = none → bcheckF b = none ∧ Beside s l2 (L ++ [b]) (R ++ [recN b]) ∧ ((joinR (R ++ [recN b])).length : Int) = l2.text.length ∧ l.text.length + 2 ≤ l2.text.length) := by
  rcases put_three hok b with ⟨l2, e0, e1, e2, e3⟩ | ⟨e, e0, e1⟩ | ⟨e0, hbc, l2, e1, e2, e3, e4, e5, e6⟩
  · exact ⟨some 6, l2, e0, .inl rfl, fun _ _ => ⟨e1.trans hB.all, e2.trans hB.recs, e3.trans hB.sides⟩, fun h => (by cases h)⟩
  · exact ⟨some e, l, e1, .inr (by rw [e0]), fun _ _ => hB, fun h => (by cases h)⟩
  · exact ⟨none, l2, e1, .inr (by rw [e0]), fun n h => (by cases h), fun _ => ⟨hbc, ⟨by rw [e2, hB.all], by rw [e3, hB.recs], e6.trans hB.sides⟩, by rw [e4, hB.recs], e5⟩⟩
end Go.Proofs.YtopgjbjpmnlldaaDoor
