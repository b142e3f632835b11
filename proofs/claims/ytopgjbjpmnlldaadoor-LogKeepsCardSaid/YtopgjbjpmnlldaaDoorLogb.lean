/- The log, part two: what puts, syncs, fails. -/
import Derived.Test.YtopgjbjpmnlldaaDoorLog

set_option linter.unusedVariables false
set_option linter.unusedSimpArgs false
namespace Go.Proofs.YtopgjbjpmnlldaaDoor
open Go.RowKit

/-- What a call upon the log comes to. -/
def RetL (Q : Nat → Prop) (g : Nat) (v : Value) (w : World) (x : Value) (l' : Lg) (e : Ending) (w' : World) : Prop :=
  ∃ v', e = .returned x ∧ LogS Q w' g v' l' ∧ Mod g v w w' ∧ (v'.ownBlock = v.ownBlock ∨ ∃ k, v'.ownBlock = some k ∧ w.heap.size ≤ k)
theorem LogS.step {Q : Nat → Prop} {w : World} {g : Nat} {v : Value} {l : Lg} (h : LogS Q w g v l) (hs : l.stopped = false) : LogS Q ((w.setCell ⟨g, 5, none⟩ (.bool (l.left == 0))).setCell ⟨g, 4, none⟩ (.int .i64 (max (-1) (l.left - 1)))) g v (stepF l) := by
  have h1 := (h.cells.set.2.2.1 (l.left == 0)).set.2.1 (max (-1) (l.left - 1))
  obtain ⟨k1, k2⟩ := h.ok.left
  exact ⟨h1, OwnB.setG (OwnB.setG h.own h.qg 5 _) h.qg 4 _, ⟨h.ok.few, h.ok.recs, h.ok.rows, h.ok.boxes, h.ok.part, fun _ => h.ok.whole hs, h.ok.safe, ⟨by simp only [stepF]; omega, by simp only [stepF]; omega⟩⟩, h.qg, fun b hb => by have := h.low b hb; simpa using this, h.vq⟩
def newF (n : Int) : Lg := { sides := n, all := [], recs := [], part := [], safe := 0, left := -1, stopped := false }
set_option maxRecDepth 100000 in
set_option maxHeartbeats 4000000 in
theorem new_bad (n : Int) (w : World) (hn : n < 1 ∨ 3 < n) : Calls Tryd.prog 12 #[.int .i64 n] w fun e w' => e = .returned (.tuple #[.pointer none, .iface 62 (.int .i64 1)]) ∧ w' = w := by
  have hor : (decide (1 ≤ n) = false) ∨ (decide (1 ≤ n) = true ∧ decide (n ≤ 3) = false) := by
    by_cases h : 1 ≤ n
    · exact .inr ⟨decide_eq_true h, decide_eq_false (by omega)⟩
    · exact .inl (decide_eq_false h)
  clear hn
  rcases hor with d1 | ⟨d1, d2⟩
  all_goals
    go_enter Tryd.func12, Tryd.ntmps12
    go_wp2_with go_in
    go_ret2
    exact ⟨rfl, rfl⟩
set_option maxRecDepth 100000 in
set_option maxHeartbeats 4000000 in
theorem new_good (n : Int) (w : World) (h1 : 1 ≤ n) (h3 : n ≤ 3) : Calls Tryd.prog 12 #[.int .i64 n] w fun e w' => e = .returned (.tuple #[.pointer (some ⟨w.heap.size, 0, none⟩), .nilIface]) ∧ LogS (fun b => b ≤ w.heap.size) w' w.heap.size (.slice none 0 0) (newF n) ∧ Up w w' := by
  have d1 : decide (1 ≤ n) = true := decide_eq_true h1
  have d2 : decide (n ≤ 3) = true := decide_eq_true h3
  clear h1 h3
  go_enter Tryd.func12, Tryd.ntmps12
  go_wp2_with go_in
  go_ret2
  refine ⟨rfl, ⟨⟨⟨by go_simp; rfl, by go_simp⟩, ⟨by go_simp, by go_simp⟩, ⟨by go_simp; rfl, by go_simp⟩, ⟨by go_simp; rfl, by go_simp⟩, ⟨by go_simp; rfl, by go_simp⟩, ⟨by go_simp; rfl, by go_simp⟩⟩, OwnR.nil _ _ _ _, ⟨by simp [newF], rfl, by simp [newF], by simp [newF], by simp [newF], fun _ => rfl, by simp [newF], by simp [newF]⟩, Nat.le_refl _, fun b hb => by simp; omega, fun k hk => by cases hk⟩, ?_⟩
  (repeat (first | (with_reducible exact Up.refl _) | (with_reducible assumption) | (with_reducible refine Up.alloc ?_ _) | (with_reducible refine Up.drew ?_) | ((with_reducible refine Up.set ?_ ?_ _); rotate_left; focus (first | omega | (simp; done) | (simp; omega))) | (with_reducible refine Up.drewN ?_ _) | (with_reducible refine Up.call ?_ (by with_reducible assumption))))
def failF (l : Lg) (n : Int) : Lg := { l with left := max (-1) n }
set_option maxRecDepth 100000 in
set_option maxHeartbeats 4000000 in
theorem fail_any {Q : Nat → Prop} (g : Nat) (v : Value) (l : Lg) (n : Int) (w : World) (h : LogS Q w g v l) (hn : I64 n) :
    Calls Tryd.prog 17 #[.pointer (some ⟨g, 0, none⟩), .int .i64 n] w (RetL Q g v w (.tuple #[]) (failF l n)) := by
  have H := hid h
  obtain ⟨c4, f4⟩ := h.cells.c4
  have lg := World.block_lt_of_cell? _ _ c4
  dsimp only at lg
  obtain ⟨k1, k2⟩ := hn
  clear h
  go_enter Tryd.func17, Tryd.ntmps17
  go_wp2
  go_end0
  refine ⟨v, rfl, ⟨H.out.cells.set.2.1 _, OwnB.setG H.out.own H.out.qg 4 _, ⟨H.out.ok.few, H.out.ok.recs, H.out.ok.rows, H.out.ok.boxes, H.out.ok.part, H.out.ok.whole, H.out.ok.safe, ⟨by simp only [failF]; omega, by simp only [failF]; omega⟩⟩, H.out.qg, fun b hb => by have := H.out.low b hb; simpa using this, H.out.vq⟩, (Mod.up (Up.refl w)).set 4 _, .inl rfl⟩
def syncF (l : Lg) : Option Nat × Lg :=
  if l.stopped = true then (some 6, l) else if l.left = 0 then (some 6, stepF l) else (none, { stepF l with safe := l.text.length })
set_option maxRecDepth 100000 in
set_option maxHeartbeats 4000000 in
theorem sync_any {Q : Nat → Prop} (g : Nat) (v : Value) (l : Lg) (w : World) (h : LogS Q w g v l) :
    Calls Tryd.prog 18 #[.pointer (some ⟨g, 0, none⟩)] w (RetL Q g v w (errV (syncF l).1) (syncF l).2) := by
  have H := hid h
  obtain ⟨c2, f2⟩ := h.cells.c2
  obtain ⟨c3, f3⟩ := h.cells.c3
  obtain ⟨c4, f4⟩ := h.cells.c4
  obtain ⟨c5, f5⟩ := h.cells.c5
  have lg := World.block_lt_of_cell? _ _ c4
  dsimp only at lg
  have hs := h.ok.size
  have HK := hid h.ok.left
  cases hst : l.stopped with
  | true =>
    have e : syncF l = (some 6, l) := by unfold syncF; rw [if_pos hst]
    rw [e]
    rw [hst] at c5
    clear e h hst
    go_enter Tryd.func18, Tryd.ntmps18
    go_wp2
    go_ret
    exact ⟨v, rfl, H.out, Mod.up (Up.refl w), .inl rfl⟩
  | false =>
    have HS := hid (h.step hst)
    rw [hst] at c5
    by_cases h0 : l.left = 0
    · have e : syncF l = (some 6, stepF l) := by unfold syncF; rw [hst, if_neg (by simp), if_pos h0]
      rw [e]
      have e0 : (l.left == 0) = true := by simpa using h0
      have E0 := hid e0
      clear e h hst h0 e0
      go_enter Tryd.func18, Tryd.ntmps18
      go_wp2_with (first
                        | (go_at_call 41; refine (step_any g v l _ H.out.cells HK.out).mono ?_; rintro e w1 ⟨rfl, hw1⟩; rw [E0.out] at hw1 ⊢; subst hw1))
      go_ret
      refine ⟨v, rfl, ?_, ((Mod.up (Up.refl w)).set 5 _).set 4 _, .inl rfl⟩
      have := HS.out
      rw [E0.out] at this
      exact this
    · have e : syncF l = (none, { stepF l with safe := l.text.length }) := by unfold syncF; rw [hst, if_neg (by simp), if_neg h0]
      rw [e]
      have e0 : (l.left == 0) = false := by simpa using h0
      have E0 := hid e0
      clear e h hst h0 e0
      go_enter Tryd.func18, Tryd.ntmps18
      go_wp2_with (first
                        | (go_at_call 41; refine (step_any g v l _ H.out.cells HK.out).mono ?_; rintro e w1 ⟨rfl, hw1⟩; rw [E0.out] at hw1 ⊢; subst hw1))
      go_ret
      have h1 := HS.out
      rw [E0.out] at h1
      refine ⟨v, rfl, ⟨h1.cells.set.1 l.text.length, OwnB.setG h1.own h1.qg 3 _, ⟨h1.ok.few, h1.ok.recs, h1.ok.rows, h1.ok.boxes, h1.ok.part, h1.ok.whole, Nat.le_refl _, h1.ok.left⟩, h1.qg, fun b hb => by have := h1.low b hb; simpa using this, h1.vq⟩, (((Mod.up (Up.refl w)).set 5 _).set 4 _).set 3 _, .inl rfl⟩
/-- A box is put. -/
def putF (l : Lg) (b : List Sp) : Option Nat × Lg :=
  if l.stopped = true then (some 6, l) else if 20 ≤ l.all.length then (some 4, l) else
  match bcheckF b with
  | some e => (some e, l)
  | none => if (b.length : Int) ≠ l.sides then (some 3, l)
    else if l.left = 0 then (some 6, { stepF l with part := (recF b).take ((recF b).length / 2) })
    else (none, { stepF l with recs := l.recs ++ [recN b], all := l.all ++ [b] })
theorem put_cases (l : Lg) (b : List Sp) : (l.stopped = true ∧ putF l b = (some 6, l)) ∨ (l.stopped = false ∧ 20 ≤ l.all.length ∧ putF l b = (some 4, l)) ∨
    (l.stopped = false ∧ l.all.length < 20 ∧ ((∃ e, bcheckF b = some e ∧ putF l b = (some e, l)) ∨ (bcheckF b = none ∧
      (((b.length : Int) ≠ l.sides ∧ putF l b = (some 3, l)) ∨ ((b.length : Int) = l.sides ∧
        ((l.left = 0 ∧ putF l b = (some 6, { stepF l with part := (recF b).take ((recF b).length / 2) })) ∨ (l.left ≠ 0 ∧ putF l b = (none, { stepF l with recs := l.recs ++ [recN b], all := l.all ++ [b] })))))))) := by
  unfold putF
  cases hs : l.stopped with
  | true => exact .inl ⟨rfl, by simp⟩
  | false =>
    rw [if_neg (by simp)]
    by_cases h1 : 20 ≤ l.all.length
    · exact .inr (.inl ⟨rfl, h1, by rw [if_pos h1]⟩)
    · rw [if_neg h1]
      refine .inr (.inr ⟨rfl, by omega, ?_⟩)
      cases hb : bcheckF b with
      | some e => exact .inl ⟨e, rfl, rfl⟩
      | none =>
        dsimp only
        refine .inr ⟨rfl, ?_⟩
        by_cases h2 : (b.length : Int) ≠ l.sides
        · exact .inl ⟨h2, by rw [if_pos h2]⟩
        · rw [if_neg h2]
          refine .inr ⟨by omega, ?_⟩
          by_cases h3 : l.left = 0
          · exact .inl ⟨h3, by rw [if_pos h3]⟩
          · exact .inr ⟨h3, by rw [if_neg h3]⟩
theorem Mod.trans {g : Nat} {v : Value} {w w1 w2 : World} (h : Mod g v w w1) (k : Mod g v w1 w2) : Mod g v w w2 :=
  ⟨k.os.trans h.os, k.tape.trans h.tape, k.output.trans h.output, Nat.le_trans h.size k.size, fun i hi h1 h2 => (k.block i (Nat.lt_of_lt_of_le hi h.size) h1 h2).trans (h.block i hi h1 h2)⟩
theorem rec_half {b : List Sp} (hb : Bx b) : ((recF b).take ((recF b).length / 2)).length ≤ 127 ∧ ∀ x ∈ (recF b).take ((recF b).length / 2), x ≠ 10 := by
  obtain ⟨r1, r2⟩ := rec_bd hb.spans hb.few
  have hrl : (recF b).length = (recN b).length + 1 := by simp [recF]
  rw [hrl]
  refine ⟨by rw [List.length_take]; omega, fun x hx => ?_⟩
  unfold recF at hx
  rw [List.take_append_of_le_length (by omega)] at hx
  exact r2 x (List.mem_of_mem_take hx)
theorem LogS.failed {Q : Nat → Prop} {w : World} {g : Nat} {v : Value} {l : Lg} (h : LogS Q w g v (stepF l)) (hw : l.part = []) (h0 : (stepF l).stopped = true) {b : List Sp} (hb : Bx b) :
    LogS Q (w.setCell ⟨g, 2, none⟩ (.string (⟨l.text.toArray⟩ ++ (⟨(recF b).toArray⟩ : ByteArray).extract 0 ((recF b).length / 2)))) g v { stepF l with part := (recF b).take ((recF b).length / 2) } := by
  rw [ba_ext, ba_app]
  obtain ⟨p1, p2⟩ := rec_half hb
  have ht : l.text = joinR l.recs := by unfold Lg.text; rw [hw, List.append_nil]
  refine ⟨h.cells.set.2.2.2.2 l.recs ((recF b).take ((recF b).length / 2)) _ (by rw [ht]), OwnB.setG h.own h.qg 2 _, ⟨h.ok.few, h.ok.recs, h.ok.rows, h.ok.boxes, ⟨p1, p2⟩, fun e => ?_, ?_, h.ok.left⟩, h.qg, fun b hb => by have := h.low b hb; simpa using this, h.vq⟩
  · have e2 : (stepF l).stopped = false := e
    rw [h0] at e2; cases e2
  · have h1 := h.ok.safe
    have h2 : (stepF l).text = l.text := rfl
    rw [h2, ht] at h1
    show l.safe ≤ (joinR l.recs ++ (recF b).take ((recF b).length / 2)).length
    rw [List.length_append]
    exact Nat.le_trans h1 (Nat.le_add_right _ _)
theorem RdS.setG {w : World} {A : Option Addr} {b : List Sp} (h : RdS w A b) {g : Nat} (hne : ∀ k o, A = some ⟨k, o, none⟩ → k ≠ g) (o : Nat) (u : Value) : RdS (w.setCell ⟨g, o, none⟩ u) A b :=
  keepsS.grown h (row := some g) ⟨rfl, rfl, rfl, by simp, fun k _ hk => Below.heap_setCell w _ u k (fun e => hk (by rw [e]))⟩ (fun k o e e2 => hne k o e (by injection e2 with e2; exact e2.symm))
theorem parts_up {Q : Nat → Prop} {w w' : World} {v : Value} {vs : List Value} {L : List (List Sp)} (h : ∀ k, k < L.length → ∃ A c, vs[k]? = some (.slice A (L[k]?.getD []).length c) ∧ (L[k]?.getD []).length ≤ c ∧ RdG Q w A (L[k]?.getD []) ∧ ∀ b o, A = some ⟨b, o, none⟩ → b < w.heap.size ∧ v.ownBlock ≠ some b) (hu : Up w w') :
    ∀ k, k < L.length → ∃ A c, vs[k]? = some (.slice A (L[k]?.getD []).length c) ∧ (L[k]?.getD []).length ≤ c ∧ RdG Q w' A (L[k]?.getD []) ∧ ∀ b o, A = some ⟨b, o, none⟩ → b < w'.heap.size ∧ v.ownBlock ≠ some b := fun k hk => by
  obtain ⟨A, c, q1, q2, q3, q4⟩ := h k hk
  exact ⟨A, c, q1, q2, keepsG_up Q q3 hu, fun b o e => ⟨Nat.lt_of_lt_of_le (q4 b o e).1 hu.le, (q4 b o e).2⟩⟩
/-- The log behind a box that was put. -/
theorem LogS.put {Q : Nat → Prop} {W w5 w6 : World} {g : Nat} {v v' : Value} {l : Lg} {b : List Sp} {A5 : Option Addr} {c5 : Nat} {vs : List Value} (hc : Cells W g v { stepF l with recs := l.recs ++ [recN b] }) (hok : l.Ok) (hs : l.stopped = false) (h0 : (stepF l).stopped = false) (hB : Bx b) (hbl : (b.length : Int) = l.sides) (hf : l.all.length < 20)
    (hp2 : vs.length = l.all.length)
    (hp3 : ∀ k, k < l.all.length → ∃ A c, vs[k]? = some (.slice A (l.all[k]?.getD []).length c) ∧ (l.all[k]?.getD []).length ≤ c ∧ RdG Q W A (l.all[k]?.getD []) ∧ ∀ b o, A = some ⟨b, o, none⟩ → b < W.heap.size ∧ v.ownBlock ≠ some b)
    (hU : Up W w5) (hgW : g < W.heap.size) (hqg : Q g) (hlow : ∀ b, Q b → b < W.heap.size) (hvq : ∀ k, v.ownBlock = some k → ¬ Q k) (hvg : ∀ k, v.ownBlock = some k → k < W.heap.size ∧ g < k)
    (hx : RdS w5 A5 b) (hc5 : b.length ≤ c5) (hnew : ∀ k o, A5 = some ⟨k, o, none⟩ → W.heap.size ≤ k ∧ k < w5.heap.size)
    (hown : w6.ownsRow (g + 1) 35 1 v' (l.all.length + 1) (vs ++ [.slice A5 b.length c5])) (hg : w5.grownBy w6 v.ownBlock) (hat : v'.ownBlock = v.ownBlock ∨ v'.ownBlock = some w5.heap.size) :
    LogS Q (w6.setCell ⟨g, 1, none⟩ v') g v' { stepF l with recs := l.recs ++ [recN b], all := l.all ++ [b] } ∧ Mod g v W (w6.setCell ⟨g, 1, none⟩ v') ∧ (v'.ownBlock = v.ownBlock ∨ ∃ k, v'.ownBlock = some k ∧ W.heap.size ≤ k) := by
  have hbn : ∀ k o, A5 = some ⟨k, o, none⟩ → k < w5.heap.size ∧ v.ownBlock ≠ some k := fun k o e => ⟨(hnew k o e).2, fun e2 => by have := (hvg k e2).1; have := (hnew k o e).1; omega⟩
  have ho := OwnR.snoc (keepsG Q) (parts_up hp3 hU) ⟨hx, fun k o e hq => by have := (hnew k o e).1; have := hlow k hq; omega⟩ hc5 hbn hp2 hown hg hat
  have hgn : v.ownBlock ≠ some g := fun e => by have := (hvg g e).2; omega
  have hM : Mod g v W w6 := (Mod.up hU).grown hg
  have hcf : ∀ {o : Nat} {u : Value}, Cf W g o u → Cf w6 g o u := fun h => by
    have h1 := Cf.up h hU
    have e := hg.block g (World.block_lt_of_cell? _ _ h1.1) (fun e => hgn e.symm)
    exact ⟨(World.cell?_of_block (a := ⟨g, _, none⟩) e).trans h1.1, (World.frozen?_of_block (a := ⟨g, _, none⟩) e).trans h1.2⟩
  have hc6 : Cells w6 g v { stepF l with recs := l.recs ++ [recN b] } := ⟨hcf hc.c0, hcf hc.c1, hcf hc.c2, hcf hc.c3, hcf hc.c4, hcf hc.c5⟩
  have hc7 := hc6.set.2.2.2.1 v'
  obtain ⟨k1, k2⟩ := hok.left
  obtain ⟨r1, r2⟩ := rec_bd hB.spans hB.few
  have hw := hok.whole hs
  refine ⟨⟨⟨hc7.c0, hc7.c1, hc7.c2, hc7.c3, hc7.c4, hc7.c5⟩, OwnB.setG ho hqg 1 _, ⟨?_, ?_, ?_, ?_, ?_, fun _ => hw, ?_, ?_⟩, hqg, fun b hb => ?_, fun k hk hq => ?_⟩, hM.set 1 _, ?_⟩
  · simp; omega
  · simp [hok.recs]
  · intro r hr
    rcases List.mem_append.1 hr with hr | hr
    · exact hok.rows r hr
    · simp only [List.mem_singleton] at hr; subst hr; exact ⟨r1, r2⟩
  · intro x hx
    rcases List.mem_append.1 hx with hx | hx
    · exact hok.boxes x hx
    · simp only [List.mem_singleton] at hx; subst hx; exact ⟨hB, hbl⟩
  · exact hok.part
  · have h1 := hok.safe
    have e1 : l.text.length ≤ (joinR (l.recs ++ [recN b]) ++ l.part).length := by simp [Lg.text, joinR]; omega
    exact Nat.le_trans h1 e1
  · exact ⟨by simp only [stepF]; omega, by simp only [stepF]; omega⟩
  · have h1 := hlow b hb
    have h2 := hU.le
    have h3 := hg.size
    simp; omega
  · rcases hat with e | e
    · exact hvq k (e.symm.trans hk) hq
    · rw [e] at hk
      injection hk with hk
      have h1 := hlow k hq
      have h2 := hU.le
      omega
  · rcases hat with e | e
    · exact .inl e
    · exact .inr ⟨_, e, hU.le⟩

set_option maxRecDepth 100000 in
set_option maxHeartbeats 4000000 in
theorem put_any {Q : Nat → Prop} (g : Nat) (v : Value) (l : Lg) (A : Option Addr) (b : List Sp) (c : Nat) (w : World) (h : LogS Q w g v l) (hb : RdS w A b) (hbg : 0 < b.length → ∀ k o, A = some ⟨k, o, none⟩ → k ≠ g) (hp : Pow w) :
    Calls Tryd.prog 13 #[.pointer (some ⟨g, 0, none⟩), .slice A b.length c] w (RetL Q g v w (errV (putF l b).1) (putF l b).2) := by
  have H := hid h; have Hb := hid hb; have HP := hid hp
  obtain ⟨i0, hi0, hz0, hz1, hz2⟩ := info_parts Tryd.infoBox
  obtain ⟨c0, f0⟩ := h.cells.c0
  obtain ⟨c1, f1⟩ := h.cells.c1
  obtain ⟨c2, f2⟩ := h.cells.c2
  obtain ⟨c5, f5⟩ := h.cells.c5
  have lg := World.block_lt_of_cell? _ _ c0
  dsimp only at lg
  have hsz := h.ok.size
  have HK := hid h.ok.left
  obtain ⟨A1, cp, hv, hv1, hv2⟩ := h.own.rd
  rcases put_cases l b with ⟨hs, e⟩ | ⟨hs, hf, e⟩ | ⟨hs, hf, ⟨n, hc, e⟩ | ⟨hc, ⟨hn, e⟩ | ⟨hn, ⟨h0, e⟩ | ⟨h0, e⟩⟩⟩⟩
  · rw [e]
    rw [hs] at c5
    clear e hs h hb hp hv hv1 hv2
    go_enter Tryd.func13, Tryd.ntmps13
    go_wp2
    go_ret
    exact ⟨v, rfl, H.out, Mod.up (Up.refl w), .inl rfl⟩
  · rw [e]
    rw [hs] at c5
    have hd : decide ((20 : Int) ≤ (l.all.length : Int)) = true := decide_eq_true (by omega)
    subst hv
    clear e hs h hb hp hv1 hv2 hf
    go_enter Tryd.func13, Tryd.ntmps13
    go_wp2
    go_ret
    exact ⟨_, rfl, H.out, Mod.up (Up.refl w), .inl rfl⟩
  · rw [e]
    rw [hs] at c5
    have hd : decide ((20 : Int) ≤ (l.all.length : Int)) = false := decide_eq_false (by omega)
    subst hv
    have Hc := hid hc
    clear e hs h hb hp hv1 hv2 hf hc
    go_enter Tryd.func13, Tryd.ntmps13
    go_wp2_with (first
                        | ((go_at_call 20; (with_reducible refine (bcheck_any _ b _ _ (Hb.out.up (by (repeat (first | (with_reducible exact Up.refl _) | (with_reducible assumption) | (with_reducible refine Up.alloc ?_ _) | (with_reducible refine Up.drew ?_) | ((with_reducible refine Up.set ?_ ?_ _); rotate_left; focus (first | omega | (simp; done) | (simp; omega))) | (with_reducible refine Up.drewN ?_ _) | (with_reducible refine Up.call ?_ (by with_reducible assumption))))))).mono ?_); rintro e w1 ⟨x1, hx1, rfl, hb1⟩ <;> (rw [Hc.out] at hx1; subst hx1)) <;> (have hle := Up.le hb1; (try simp only [World.size_alloc, World.size_setCell, World.size_drew, World.heap_drewN] at hle); clear hle)))
    go_ret
    exact ⟨_, rfl, H.out.up hb1, Mod.up hb1, .inl rfl⟩
  · rw [e]
    rw [hs] at c5
    have hd : decide ((20 : Int) ≤ (l.all.length : Int)) = false := decide_eq_false (by omega)
    subst hv
    have Hc := hid hc
    have hne : ((b.length : Int) != l.sides) = true := by simpa using hn
    clear e hs h hb hp hv1 hv2 hf hc hn
    go_enter Tryd.func13, Tryd.ntmps13
    go_wp2_with (first
                        | ((go_at_call 20; (with_reducible refine (bcheck_any _ b _ _ (Hb.out.up (by (repeat (first | (with_reducible exact Up.refl _) | (with_reducible assumption) | (with_reducible refine Up.alloc ?_ _) | (with_reducible refine Up.drew ?_) | ((with_reducible refine Up.set ?_ ?_ _); rotate_left; focus (first | omega | (simp; done) | (simp; omega))) | (with_reducible refine Up.drewN ?_ _) | (with_reducible refine Up.call ?_ (by with_reducible assumption))))))).mono ?_); rintro e w1 ⟨x1, hx1, rfl, hb1⟩ <;> (rw [Hc.out] at hx1; subst hx1; obtain ⟨k1, k2⟩ := bcell hb1)) <;> (have hle := Up.le hb1; (try simp only [World.size_alloc, World.size_setCell, World.size_drew, World.heap_drewN] at hle); clear hle)))
    go_ret
    exact ⟨_, rfl, H.out.up hb1, Mod.up hb1, .inl rfl⟩
  · rw [e]
    rw [hs] at c5
    have hd : decide ((20 : Int) ≤ (l.all.length : Int)) = false := decide_eq_false (by omega)
    subst hv
    have Hc := hid hc
    have hne : ((b.length : Int) != l.sides) = false := by simpa using hn
    have e0 : (l.left == 0) = true := by simpa using h0
    have E0 := hid e0
    have HS := hid hs; have H0 := hid h0
    have HB := hid (bcheck_bx hc)
    obtain ⟨r1, r2⟩ := rec_bd HB.out.spans HB.out.few
    have hrl : (recF b).length = (recN b).length + 1 := by simp [recF]
    have hq : ¬ 9223372036854775807 < l.text.length + (recF b).length := by omega
    have Hrl := hid hrl; have Hr1 := hid r1; have Hr2 := hid r2
    clear e hs h hb hp hv1 hv2 hf hc hn e0 h0 hrl r1 r2
    go_enter Tryd.func13, Tryd.ntmps13
    go_wp2_with (first
                        | ((go_at_call 20; (with_reducible refine (bcheck_any _ b _ _ (Hb.out.up (by (repeat (first | (with_reducible exact Up.refl _) | (with_reducible assumption) | (with_reducible refine Up.alloc ?_ _) | (with_reducible refine Up.drew ?_) | ((with_reducible refine Up.set ?_ ?_ _); rotate_left; focus (first | omega | (simp; done) | (simp; omega))) | (with_reducible refine Up.drewN ?_ _) | (with_reducible refine Up.call ?_ (by with_reducible assumption))))))).mono ?_); rintro e w1 ⟨x1, hx1, rfl, hb1⟩ <;> (rw [Hc.out] at hx1; subst hx1; obtain ⟨k1, k2⟩ := bcell hb1)) <;> (have hle := Up.le hb1; (try simp only [World.size_alloc, World.size_setCell, World.size_drew, World.heap_drewN] at hle); clear hle))
                        | ((go_at_call 40; (with_reducible refine (record_any _ b _ _ (Hb.out.up (by (repeat (first | (with_reducible exact Up.refl _) | (with_reducible assumption) | (with_reducible refine Up.alloc ?_ _) | (with_reducible refine Up.drew ?_) | ((with_reducible refine Up.set ?_ ?_ _); rotate_left; focus (first | omega | (simp; done) | (simp; omega))) | (with_reducible refine Up.drewN ?_ _) | (with_reducible refine Up.call ?_ (by with_reducible assumption)))))) HB.out.few HB.out.pos HB.out.spans (HP.out.up (by (repeat (first | (with_reducible exact Up.refl _) | (with_reducible assumption) | (with_reducible refine Up.alloc ?_ _) | (with_reducible refine Up.drew ?_) | ((with_reducible refine Up.set ?_ ?_ _); rotate_left; focus (first | omega | (simp; done) | (simp; omega))) | (with_reducible refine Up.drewN ?_ _) | (with_reducible refine Up.call ?_ (by with_reducible assumption))))))).mono ?_); rintro e w2 ⟨x2, rfl, rfl, hb2⟩ <;> (have hu2 : Up w w2 := (by (repeat (first | (with_reducible exact Up.refl _) | (with_reducible assumption) | (with_reducible refine Up.alloc ?_ _) | (with_reducible refine Up.drew ?_) | ((with_reducible refine Up.set ?_ ?_ _); rotate_left; focus (first | omega | (simp; done) | (simp; omega))) | (with_reducible refine Up.drewN ?_ _) | (with_reducible refine Up.call ?_ (by with_reducible assumption))))); obtain ⟨k3, k4⟩ := bcell hu2)) <;> (have hle := Up.le hb2; (try simp only [World.size_alloc, World.size_setCell, World.size_drew, World.heap_drewN] at hle); clear hle))
                        | (go_at_call 41; refine (step_any g _ l _ (H.out.cells.up (by (repeat (first | (with_reducible exact Up.refl _) | (with_reducible assumption) | (with_reducible refine Up.alloc ?_ _) | (with_reducible refine Up.drew ?_) | ((with_reducible refine Up.set ?_ ?_ _); rotate_left; focus (first | omega | (simp; done) | (simp; omega))) | (with_reducible refine Up.drewN ?_ _) | (with_reducible refine Up.call ?_ (by with_reducible assumption)))))) HK.out).mono ?_; rintro e w3 ⟨rfl, hw3⟩; rw [E0.out] at hw3 ⊢; subst hw3))
    go_region
    all_goals go_wp2
    all_goals go_ret
    have h1 := (H.out.up hu2).step HS.out
    rw [E0.out] at h1
    refine ⟨_, rfl, (LogS.failed h1 (H.out.ok.whole HS.out) E0.out HB.out).up ((Up.refl _).drew), ((((Mod.up hu2).set 5 _).set 4 _).set 2 _).on ((Up.refl _).drew), .inl rfl⟩
  · rw [e]
    rw [hs] at c5
    have hd : decide ((20 : Int) ≤ (l.all.length : Int)) = false := decide_eq_false (by omega)
    subst hv
    have Hc := hid hc
    have hne : ((b.length : Int) != l.sides) = false := by simpa using hn
    have e0 : (l.left == 0) = false := by simpa using h0
    have E0 := hid e0
    have HS := hid hs; have H0 := hid h0; have Hf := hid hf; have Hn := hid hn
    have HB := hid (bcheck_bx hc)
    have HNE := hid (hbg HB.out.pos)
    obtain ⟨r1, r2⟩ := rec_bd HB.out.spans HB.out.few
    have hrl : (recF b).length = (recN b).length + 1 := by simp [recF]
    have hq : ¬ 9223372036854775807 < l.text.length + (recF b).length := by omega
    have Hrl := hid hrl; have Hr1 := hid r1; have Hr2 := hid r2
    clear e hs h hb hp hv1 hv2 hf hc hn e0 h0 hrl r1 r2 hbg
    go_enter Tryd.func13, Tryd.ntmps13
    go_wp2_with (first
                        | ((go_at_call 20; (with_reducible refine (bcheck_any _ b _ _ (Hb.out.up (by (repeat (first | (with_reducible exact Up.refl _) | (with_reducible assumption) | (with_reducible refine Up.alloc ?_ _) | (with_reducible refine Up.drew ?_) | ((with_reducible refine Up.set ?_ ?_ _); rotate_left; focus (first | omega | (simp; done) | (simp; omega))) | (with_reducible refine Up.drewN ?_ _) | (with_reducible refine Up.call ?_ (by with_reducible assumption))))))).mono ?_); rintro e w1 ⟨x1, hx1, rfl, hb1⟩ <;> (rw [Hc.out] at hx1; subst hx1; obtain ⟨k1, k2⟩ := bcell hb1)) <;> (have hle := Up.le hb1; (try simp only [World.size_alloc, World.size_setCell, World.size_drew, World.heap_drewN] at hle); clear hle))
                        | ((go_at_call 40; (with_reducible refine (record_any _ b _ _ (Hb.out.up (by (repeat (first | (with_reducible exact Up.refl _) | (with_reducible assumption) | (with_reducible refine Up.alloc ?_ _) | (with_reducible refine Up.drew ?_) | ((with_reducible refine Up.set ?_ ?_ _); rotate_left; focus (first | omega | (simp; done) | (simp; omega))) | (with_reducible refine Up.drewN ?_ _) | (with_reducible refine Up.call ?_ (by with_reducible assumption)))))) HB.out.few HB.out.pos HB.out.spans (HP.out.up (by (repeat (first | (with_reducible exact Up.refl _) | (with_reducible assumption) | (with_reducible refine Up.alloc ?_ _) | (with_reducible refine Up.drew ?_) | ((with_reducible refine Up.set ?_ ?_ _); rotate_left; focus (first | omega | (simp; done) | (simp; omega))) | (with_reducible refine Up.drewN ?_ _) | (with_reducible refine Up.call ?_ (by with_reducible assumption))))))).mono ?_); rintro e w2 ⟨x2, rfl, rfl, hb2⟩ <;> (have hu2 : Up w w2 := (by (repeat (first | (with_reducible exact Up.refl _) | (with_reducible assumption) | (with_reducible refine Up.alloc ?_ _) | (with_reducible refine Up.drew ?_) | ((with_reducible refine Up.set ?_ ?_ _); rotate_left; focus (first | omega | (simp; done) | (simp; omega))) | (with_reducible refine Up.drewN ?_ _) | (with_reducible refine Up.call ?_ (by with_reducible assumption))))); obtain ⟨k3, k4⟩ := bcell hu2)) <;> (have hle := Up.le hb2; (try simp only [World.size_alloc, World.size_setCell, World.size_drew, World.heap_drewN] at hle); clear hle))
                        | (go_at_call 41; refine (step_any g _ l _ (H.out.cells.up (by (repeat (first | (with_reducible exact Up.refl _) | (with_reducible assumption) | (with_reducible refine Up.alloc ?_ _) | (with_reducible refine Up.drew ?_) | ((with_reducible refine Up.set ?_ ?_ _); rotate_left; focus (first | omega | (simp; done) | (simp; omega))) | (with_reducible refine Up.drewN ?_ _) | (with_reducible refine Up.call ?_ (by with_reducible assumption)))))) HK.out).mono ?_; rintro e w3 ⟨rfl, hw3⟩; rw [E0.out] at hw3 ⊢; subst hw3))
    obtain ⟨W1, hW1⟩ : ∃ W1, W1 = ((w2.setCell ⟨g, 5, none⟩ (Value.bool false)).setCell ⟨g, 4, none⟩ (Value.int IntKind.i64 (max (-1) (l.left - 1)))).setCell ⟨g, 2, none⟩ (Value.string ((⟨l.text.toArray⟩ : ByteArray) ++ ⟨(recF b).toArray⟩)) := ⟨_, rfl⟩
    have h1 := (H.out.up hu2).step HS.out
    rw [E0.out] at h1
    have hC1 : Cells W1 g (.slice A1 l.all.length cp) { stepF l with recs := l.recs ++ [recN b] } := by
      rw [hW1, ba_app]
      exact h1.cells.set.2.2.2.2 (l.recs ++ [recN b]) l.part _ (by simp [Lg.text, joinR, recF, H.out.ok.whole HS.out])
    have hO1 : OwnB Q W1 (g + 1) (.slice A1 l.all.length cp) l.all := by rw [hW1]; exact OwnB.setG h1.own h1.qg 2 _
    have Hlow := hid (show ∀ b, Q b → b < W1.heap.size from fun b hb => by have := h1.low b hb; rw [hW1]; simpa using this)
    have Hvq := hid h1.vq; have Hqg := hid h1.qg
    have hM1 : Mod g (.slice A1 l.all.length cp) w W1 := by rw [hW1]; exact (((Mod.up hu2).set 5 _).set 4 _).set 2 _
    have hR1 : RdS W1 A b := by rw [hW1]; exact (((Hb.out.up hu2).setG HNE.out 5 _).setG HNE.out 4 _).setG HNE.out 2 _
    rw [← hW1]
    obtain ⟨vs, p1, p2, p3⟩ := hO1.parts
    obtain ⟨d1, e1⟩ := hC1.c1
    have lg1 : g < W1.heap.size := Nat.lt_of_lt_of_le lg hM1.size
    have HVG := hid (show (Value.slice A1 l.all.length cp).ownBlock ≠ some g from fun e => by have := (hO1.lt g e).1; omega)
    have HVL := hid hO1.lt
    have HC1 := hid hC1; have HO1 := hid hO1; have HM1 := hid hM1; have HR1 := hid hR1; have HP1 := hid p1; have HP2 := hid p2; have HP3 := hid p3
    clear hW1 h1 hC1 hO1 hM1 hR1 p1 p2 p3 hu2 k1 k2 k3 k4 c0 c1 c2 c5 f0 f1 f2 f5 hb1 hb2 lg
    go_region_law (first
      | (refine step_append_lies _ (by rfl) _ _ _ (by rfl) (g + 1) 35 i0 _ 1 24 Tryd.underlying39 hi0 hz0 hz1 hz2 rfl (by omega) _ _ vs (by rfl) (World.ownsRow.kept HP1.out (row := none) (grown_up (U5.alloc _)) (by cases (Value.slice A1 l.all.length cp).ownBlock <;> simp)) ⟨w5.heap.size, 0, none⟩ 1 1 [.slice A5 b.length c5] (by rfl) (by rfl) (cell_one_new _ _ _) (by simp [Value.oneCell']) (by omega) (by have := Hf.out; unfold maxLen; omega) (by have := Hf.out; omega) (by have := U5.le; simp; omega) _ rfl ?_; intro gg cap w6 hown6 hgrow hat hlt6; obtain ⟨c61, f61⟩ := Cf.keep (Cf.up HC1.out.c1 (U5.alloc _)) hgrow HVG.out; have HG6 := hid (And.intro U5 hgrow); have HA6 := hid hat; clear hat hgrow)
      | (go_simp; ((go_at_call 42; (with_reducible refine (sclone_any _ b _ _ (HR1.out.up (by (repeat (first | (with_reducible exact Up.refl _) | (with_reducible assumption) | (with_reducible refine Up.alloc ?_ _) | (with_reducible refine Up.drew ?_) | ((with_reducible refine Up.set ?_ ?_ _); rotate_left; focus (first | omega | (simp; done) | (simp; omega))) | (with_reducible refine Up.drewN ?_ _) | (with_reducible refine Up.call ?_ (by with_reducible assumption)))))) HB.out.pos (by have := HB.out.few; omega)).mono ?_); rintro e w5 ⟨x5, v5, rfl, rfl, hv5, hb5⟩ <;> (have U5 : Up W1 w5 := (by (repeat (first | (with_reducible exact Up.refl _) | (with_reducible assumption) | (with_reducible refine Up.alloc ?_ _) | (with_reducible refine Up.drew ?_) | ((with_reducible refine Up.set ?_ ?_ _); rotate_left; focus (first | omega | (simp; done) | (simp; omega))) | (with_reducible refine Up.drewN ?_ _) | (with_reducible refine Up.call ?_ (by with_reducible assumption))))); have lg5 : g < w5.heap.size := Nat.lt_of_lt_of_le lg1 U5.le; obtain ⟨A5, c5, rfl, hrd5, hc5⟩ := OwnS.rd hv5; have Hrd5 := hid hrd5; have Hc5 := hid hc5; have Hn5 := hid (fun b o (e : A5 = some ⟨b, o, none⟩) => OwnS.lt hv5 b (by rw [e]; rfl)); clear hv5 hrd5 hc5; obtain ⟨k5, k6⟩ := bcell U5)) <;> (have hle := Up.le hb5; (try simp only [World.size_alloc, World.size_setCell, World.size_drew, World.heap_drewN] at hle); clear hle))))
    all_goals go_wp2
    all_goals go_ret
    all_goals
      obtain ⟨U5, hgrow⟩ := HG6.out
      have hat6 : (Value.slice (some ⟨gg, 0, none⟩) (l.all.length + 1) cap).ownBlock = (Value.slice A1 l.all.length cp).ownBlock ∨ (Value.slice (some ⟨gg, 0, none⟩) (l.all.length + 1) cap).ownBlock = some (w5.alloc (Obj.cells #[Value.slice A5 b.length c5] 35)).heap.size := by
        rcases HA6.out with e | e
        · exact .inl e.symm
        · exact .inr (by rw [e]; rfl)
      obtain ⟨q1, q2, q3⟩ := LogS.put HC1.out H.out.ok HS.out E0.out HB.out Hn.out Hf.out HP2.out HP3.out (U5.alloc (Obj.cells #[Value.slice A5 b.length c5] 35)) lg1 Hqg.out Hlow.out Hvq.out (fun k hk => by have := HVL.out k hk; omega) (Hrd5.out.up ((Up.refl w5).alloc _)) Hc5.out (fun k o e => by have := Hn5.out k o e; simp at this; simp; omega) hown6 hgrow hat6
      refine ⟨_, rfl, q1.up ?_, (HM1.out.trans q2).on ?_, ?_⟩
      · (repeat (first | (with_reducible exact Up.refl _) | (with_reducible assumption) | (with_reducible refine Up.alloc ?_ _) | (with_reducible refine Up.drew ?_) | ((with_reducible refine Up.set ?_ ?_ _); rotate_left; focus (first | omega | (simp; done) | (simp; omega))) | (with_reducible refine Up.drewN ?_ _) | (with_reducible refine Up.call ?_ (by with_reducible assumption))))
      · (repeat (first | (with_reducible exact Up.refl _) | (with_reducible assumption) | (with_reducible refine Up.alloc ?_ _) | (with_reducible refine Up.drew ?_) | ((with_reducible refine Up.set ?_ ?_ _); rotate_left; focus (first | omega | (simp; done) | (simp; omega))) | (with_reducible refine Up.drewN ?_ _) | (with_reducible refine Up.call ?_ (by with_reducible assumption))))
      · rcases q3 with e | ⟨k, e1, e2⟩
        · exact .inl e
        · exact .inr ⟨k, e1, Nat.le_trans HM1.out.size e2⟩
end Go.Proofs.YtopgjbjpmnlldaaDoor
