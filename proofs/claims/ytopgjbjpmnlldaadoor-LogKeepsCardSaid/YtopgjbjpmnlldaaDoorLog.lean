/- The log, part one: what it holds, in plain words; a record of a box; a new log; a step; what is asked of it without a change. -/
import Derived.Test.YtopgjbjpmnlldaaDoorClone
import Derived.Test.YtopgjbjpmnlldaaDoorOwnk
import Derived.Test.YtopgjbjpmnlldaaDoorHas
import Derived.Test.YtopgjbjpmnlldaaDoorDoorl
import Derived.BigRegion
import Derived.RegionTactic
import Derived.Deep.RegionLaw

set_option linter.unusedVariables false
set_option linter.unusedSimpArgs false
namespace Go.Proofs.YtopgjbjpmnlldaaDoor
open Go.RowKit

/-- The words of a box. -/
def toks (b : List Sp) : List (List UInt8) := b.flatMap fun s => [Lib.itoa s.lo, Lib.itoa s.hi]
theorem toks_snoc (l : List Sp) (s : Sp) : toks (l ++ [s]) = toks l ++ [Lib.itoa s.lo, Lib.itoa s.hi] := by simp [toks]
theorem toks_len (l : List Sp) : (toks l).length = l.length * 2 := by
  induction l with
  | nil => rfl
  | cons s l ih => simp only [toks, List.flatMap_cons, List.length_append, List.length_cons, List.length_nil] at *; omega
/-- A box, as one row of bytes, without its end of line. -/
def recN (b : List Sp) : List UInt8 := Lib.join (toks b) [32]
def recF (b : List Sp) : List UInt8 := recN b ++ [10]
theorem join_bd (sep : List UInt8) (hs : sep.length ≤ 1) (hs2 : ∀ x ∈ sep, x ≠ 10) : ∀ (l : List (List UInt8)), (∀ r ∈ l, r.length ≤ 20 ∧ ∀ x ∈ r, x ≠ 10) → (Lib.join l sep).length ≤ l.length * 21 ∧ ∀ x ∈ Lib.join l sep, x ≠ 10 := by
  intro l
  cases l with
  | nil => intro _; exact ⟨by simp [Lib.join_nil], by simp [Lib.join_nil]⟩
  | cons r l =>
    intro h
    rw [Lib.join_cons]
    have h0 := h r (by simp)
    have ht : (Lib.joinTail sep l).length ≤ l.length * 21 ∧ ∀ x ∈ Lib.joinTail sep l, x ≠ 10 := by
      have hl : ∀ q ∈ l, q.length ≤ 20 ∧ ∀ x ∈ q, x ≠ 10 := fun q hq => h q (by simp [hq])
      clear h h0
      induction l with
      | nil => exact ⟨by simp [Lib.joinTail], by simp [Lib.joinTail]⟩
      | cons q l ih =>
        obtain ⟨i1, i2⟩ := ih (fun p hp => hl p (by simp [hp]))
        obtain ⟨q1, q2⟩ := hl q (by simp)
        have e : Lib.joinTail sep (q :: l) = sep ++ q ++ Lib.joinTail sep l := by simp [Lib.joinTail]
        rw [e]
        refine ⟨by simp only [List.length_append, List.length_cons]; omega, fun x hx => ?_⟩
        rcases List.mem_append.1 hx with hx | hx
        · rcases List.mem_append.1 hx with hx | hx
          · exact hs2 x hx
          · exact q2 x hx
        · exact i2 x hx
    refine ⟨by simp only [List.length_append, List.length_cons]; omega, fun x hx => ?_⟩
    rcases List.mem_append.1 hx with hx | hx
    · exact h0.2 x hx
    · exact ht.2 x hx
theorem toks_bd {b : List Sp} (hb : ∀ s ∈ b, Rt s) : ∀ r ∈ toks b, r.length ≤ 20 ∧ ∀ x ∈ r, x ≠ 10 := by
  intro r hr
  obtain ⟨s, hs, hr⟩ := List.mem_flatMap.1 hr
  obtain ⟨⟨h1, h2⟩, ⟨h3, h4⟩, -⟩ := hb s hs
  simp only [List.mem_cons, List.not_mem_nil, or_false] at hr
  rcases hr with rfl | rfl
  · exact itoa_bd _ ⟨by omega, by omega⟩
  · exact itoa_bd _ ⟨by omega, by omega⟩
theorem rec_bd {b : List Sp} (hb : ∀ s ∈ b, Rt s) (hl : b.length ≤ 3) : (recN b).length ≤ 126 ∧ ∀ x ∈ recN b, x ≠ 10 := by
  obtain ⟨h1, h2⟩ := join_bd [32] (by decide) (by simp) (toks b) (toks_bd hb)
  rw [toks_len] at h1
  exact ⟨Nat.le_trans h1 (by omega), h2⟩
/-- The call's own row of words. -/
def txts (l : List (List UInt8)) : List Value := l.map strV
def OwnT (w : World) (base : Nat) (v : Value) (l : List (List UInt8)) : Prop := w.ownsRow base 9 1 v l.length (txts l)
theorem OwnT.nil (w : World) (base : Nat) : OwnT w base (.slice none 0 0) [] := World.ownsRow_nil _ _ _ _
theorem OwnT.up {w w' : World} {base : Nat} {v : Value} {l : List (List UInt8)} (h : OwnT w base v l) (hu : Up w w') : OwnT w' base v l :=
  World.ownsRow.kept h (row := none) (grown_up hu) (by cases v.ownBlock <;> simp)
theorem OwnT.lt {w : World} {base : Nat} {v : Value} {l : List (List UInt8)} (h : OwnT w base v l) : ∀ k, v.ownBlock = some k → base ≤ k ∧ k < w.heap.size := World.ownsRow.lt h
theorem OwnT.snoc2 {w' : World} {base : Nat} {v' : Value} {l : List (List UInt8)} {a b : List UInt8} (h : w'.ownsRow base 9 1 v' (l.length + 2) (txts l ++ [.string ⟨a.toArray⟩, .string ⟨b.toArray⟩])) : OwnT w' base v' (l ++ [a, b]) := by
  unfold OwnT
  have e : txts (l ++ [a, b]) = txts l ++ [.string ⟨a.toArray⟩, .string ⟨b.toArray⟩] := by simp [txts, strV]
  rw [e]
  simpa using h
theorem OwnT.rd {w : World} {base : Nat} {v : Value} {l : List (List UInt8)} (h : OwnT w base v l) (h0 : 0 < l.length) : ∃ g c, v = .slice (some ⟨g, 0, none⟩) l.length c ∧ base ≤ g ∧ g < w.heap.size ∧ l.length ≤ c ∧ ∀ (j : Nat) x, (l.map fun a => (⟨a.toArray⟩ : ByteArray))[j]? = some x → w.cell? ⟨g, 0 + j, none⟩ = some (.string x) := by
  have h1 := h
  rcases h.2 with ⟨hv, hn⟩ | ⟨g, cap, cur, hv, hb, hg, hle, hx⟩
  · omega
  · refine ⟨g, cap, hv, hb, (Array.getElem?_eq_some_iff.1 hg).1, hle, fun j x hj => ?_⟩
    have c1 := World.ownsRow.cells h1 (g := g) (by rw [hv]; rfl) j (.string x) (by
      rw [List.getElem?_map] at hj
      unfold txts
      rw [List.getElem?_map]
      cases hq : l[j]? with
      | none => rw [hq] at hj; cases hj
      | some a => rw [hq] at hj; injection hj with hj; subst hj; rfl)
    have ea : (⟨g, 0, none⟩ : Addr).add j = ⟨g, 0 + j, none⟩ := by unfold Addr.add; split <;> simp_all
    rw [ea] at c1
    exact c1
theorem join_ba (l : List (List UInt8)) : (l.map fun a => (⟨a.toArray⟩ : ByteArray)).map (·.data.toList) = l := by
  induction l with
  | nil => rfl
  | cons a l ih =>
    rw [List.map_cons, List.map_cons, ih]
theorem join_any (g c : Nat) (l : List (List UInt8)) (w : World) (hc : ∀ (j : Nat) x, (l.map fun a => (⟨a.toArray⟩ : ByteArray))[j]? = some x → w.cell? ⟨g, 0 + j, none⟩ = some (.string x)) (hg : g < w.heap.size) (hN : l.length ≤ 1000) (hcap : l.length ≤ c) (hlen : (Lib.join l [32]).length ≤ 1000) :
    Calls Tryd.prog 62 #[.slice (some ⟨g, 0, none⟩) l.length c, .string ⟨#[32]⟩] w (RetX strV (Lib.join l [32]) w) := by
  have e : (l.map fun a => (⟨a.toArray⟩ : ByteArray)).length = l.length := by simp
  have h := Tryd.strings_Join g 0 c (l.map fun a => (⟨a.toArray⟩ : ByteArray)) ⟨#[32]⟩ w hc hg (by rw [e]; omega) (by rw [e]; exact hcap) (by rw [join_ba]; exact Nat.le_trans hlen (by decide))
  rw [e, join_ba] at h
  exact h.mono fun e w' h => ⟨_, rfl, h.1, h.2⟩
set_option maxRecDepth 100000 in
set_option maxHeartbeats 4000000 in
theorem record_any (A : Option Addr) (b : List Sp) (c : Nat) (w : World) (hr : RdS w A b) (hl : b.length ≤ 3) (h0 : 0 < b.length) (hs : ∀ s ∈ b, Rt s) (hp : Pow w) :
    Calls Tryd.prog 40 #[.slice A b.length c] w (RetX strV (recF b) w) := by
  obtain ⟨i0, hi0, hz0, hz1, hz2⟩ := info_parts Tryd.infoString
  obtain ⟨g, o, rfl, hg, hc⟩ := hr.at h0
  have Hc := hid hc; have Hl := hid hl; have H0 := hid h0; have HP := hid hp
  have Hs := hid (fun k (hk : k < b.length) => hs (b[k]?.getD ⟨0, 0⟩) (by rw [List.getElem?_eq_getElem hk]; exact List.getElem_mem hk))
  have HT := hid (toks_bd hs)
  have HJ := hid (join_bd [32] (by decide) (by simp) (toks b) (toks_bd hs)).1
  clear hc hr hl h0 hs hp
  go_enter Tryd.func40, Tryd.ntmps40
  go_wp2
  go_loopw [3, 8] (fun v i wr => ∃ k : Nat, k ≤ b.length ∧ i = .int .i64 k ∧ Hid (OwnT wr w.heap.size v (toks (b.take k))) ∧ Up w wr) (fun _ i _ => b.length - (intOf i).toNat)
  case atStart => exact ⟨0, by omega, rfl, OwnT.nil _ _, Up.refl _⟩
  case round =>
    obtain ⟨k, hk, rfl, HO, hU⟩ := hrel
    have gr := (bcell hU).1
    have hle := hU.le
    by_cases hlt : k < b.length
    · obtain ⟨c1, c2⟩ := Hc.out k hlt
      have j1 := (gr _ _ hg).trans c1
      have j2 := (gr _ _ hg).trans c2
      have hkm : (k : Int) < (b.length : Int) := by omega
      have hk0 : (0 : Int) ≤ (k : Int) := by omega
      have hdk : decide ((k : Int) < (b.length : Int)) = true := by simp; omega
      have hk9 : (k : Int) < 3 := by have := Hl.out; omega
      have lg : g < wr.heap.size := by omega
      obtain ⟨⟨r1, r2⟩, ⟨r3, r4⟩, -⟩ := Hs.out k hlt
      have Hta := hid (show toks (b.take (k + 1)) = toks (b.take k) ++ [Lib.itoa (b[k]?.getD ⟨0, 0⟩).lo, Lib.itoa (b[k]?.getD ⟨0, 0⟩).hi] by
        rw [List.take_succ_eq_append_getElem hlt, toks_snoc]; simp [List.getElem?_eq_getElem hlt])
      have Hlt := hid hlt
      have Hm := hid (show (toks (b.take k)).length ≤ 6 by rw [toks_len]; have := Hl.out; simp; omega)
      generalize b[k]?.getD ⟨0, 0⟩ = s at *
      have HI1 := hid (show I64 s.lo from ⟨by omega, by omega⟩)
      have HI2 := hid (show I64 s.hi from ⟨by omega, by omega⟩)
      have HPr := hid (HP.out.up hU)
      clear c1 c2 gr hlt r1 r2 r3 r4
      go_wp2_with fail
      go_region_law (first
        | (refine step_append_lies _ (by rfl) _ _ _ (by rfl) w.heap.size 9 i0 _ 1 16 Tryd.underlying85 hi0 hz0 hz1 hz2 rfl (by omega) _ _ (txts (toks (b.take k))) (by rfl) (HO.out.up (U4.alloc _)) ⟨w4.heap.size, 0, none⟩ 2 2 [.string ⟨(Lib.itoa s.lo).toArray⟩, .string ⟨(Lib.itoa s.hi).toArray⟩] (by rfl) (by rfl) (cell_two_new _ _ _ _) (by simp [Value.oneCell']) (by omega) (by have := Hm.out; unfold maxLen; omega) (by have := Hm.out; omega) (by have := hU.le; have := U4.le; simp; omega) _ rfl ?_; intro gg cap w5 hown2 hgrow hat hlt; have HG := hid (And.intro U4 hgrow))
        | (go_simp; ((go_at_call 61; (with_reducible refine (itoa_any s.lo _ HI1.out (HPr.out.up (by (repeat (first | (with_reducible exact Up.refl _) | (with_reducible assumption) | (with_reducible refine Up.alloc ?_ _) | (with_reducible refine Up.drew ?_) | ((with_reducible refine Up.set ?_ ?_ _); rotate_left; focus (first | omega | (simp; done) | (simp; omega))) | (with_reducible refine Up.drewN ?_ _) | (with_reducible refine Up.call ?_ (by with_reducible assumption))))))).mono ?_); rintro e w3 ⟨x3, rfl, rfl, hb3⟩ <;> ((have U3 : Up wr w3 := (by (repeat (first | (with_reducible exact Up.refl _) | (with_reducible assumption) | (with_reducible refine Up.alloc ?_ _) | (with_reducible refine Up.drew ?_) | ((with_reducible refine Up.set ?_ ?_ _); rotate_left; focus (first | omega | (simp; done) | (simp; omega))) | (with_reducible refine Up.drewN ?_ _) | (with_reducible refine Up.call ?_ (by with_reducible assumption)))))); obtain ⟨hc3, hf3⟩ := bcell hb3)) <;> (have hle := Up.le hb3; (try simp only [World.size_alloc, World.size_setCell, World.size_drew, World.heap_drewN] at hle); clear hle)))
        | (go_simp; ((go_at_call 61; (with_reducible refine (itoa_any s.hi _ HI2.out (HPr.out.up (by (repeat (first | (with_reducible exact Up.refl _) | (with_reducible assumption) | (with_reducible refine Up.alloc ?_ _) | (with_reducible refine Up.drew ?_) | ((with_reducible refine Up.set ?_ ?_ _); rotate_left; focus (first | omega | (simp; done) | (simp; omega))) | (with_reducible refine Up.drewN ?_ _) | (with_reducible refine Up.call ?_ (by with_reducible assumption))))))).mono ?_); rintro e w4 ⟨x4, rfl, rfl, hb4⟩ <;> ((have U4 : Up wr w4 := (by (repeat (first | (with_reducible exact Up.refl _) | (with_reducible assumption) | (with_reducible refine Up.alloc ?_ _) | (with_reducible refine Up.drew ?_) | ((with_reducible refine Up.set ?_ ?_ _); rotate_left; focus (first | omega | (simp; done) | (simp; omega))) | (with_reducible refine Up.drewN ?_ _) | (with_reducible refine Up.call ?_ (by with_reducible assumption)))))); obtain ⟨hc4, hf4⟩ := bcell hb4)) <;> (have hle := Up.le hb4; (try simp only [World.size_alloc, World.size_setCell, World.size_drew, World.heap_drewN] at hle); clear hle))))
      all_goals go_wp2
      all_goals
        go_roundw
        case rel =>
          refine ⟨k + 1, by have := Hlt.out; omega, by go_num, ?_, ?_⟩
          · show OwnT _ _ _ _
            rw [Hta.out]
            exact OwnT.snoc2 hown2
          · obtain ⟨UU, gg8⟩ := HG.out
            exact Below.grown (hU.call (UU.alloc _)) gg8 (hU.call (UU.alloc _)).le (fun j hj => (HO.out.lt j hj).1)
        case measure => have := Hlt.out; simp [intOf]; omega
    · obtain rfl : k = b.length := by omega
      have hO := HO.out
      rw [List.take_length] at hO
      obtain ⟨g2, c2, rfl, q1, q2, q3, q4⟩ := hO.rd (by rw [toks_len]; have := H0.out; omega)
      have htl : (toks b).length = b.length * 2 := toks_len b
      have HQ := hid (join_any g2 c2 (toks b) _ q4 q2 (by have := Hl.out; omega) q3 (Nat.le_trans HJ.out (by have := Hl.out; omega)))
      have hjl : ¬ 9223372036854775807 < (Lib.join (toks b) [32]).length + 1 := by have := HJ.out; have := Hl.out; omega
      clear q4 hO htl q1 q2 q3 gr
      go_wp2_with (first
                        | ((go_at_call 62; (with_reducible refine (HQ.out).mono ?_); rintro e w5 ⟨x5, rfl, rfl, hb5⟩) <;> (have hle := Up.le hb5; (try simp only [World.size_alloc, World.size_setCell, World.size_drew, World.heap_drewN] at hle); clear hle)))
      go_ret
      refine RetX.same ?_ ?_
      · (repeat (first | (with_reducible exact Up.refl _) | (with_reducible assumption) | (with_reducible refine Up.alloc ?_ _) | (with_reducible refine Up.drew ?_) | ((with_reducible refine Up.set ?_ ?_ _); rotate_left; focus (first | omega | (simp; done) | (simp; omega))) | (with_reducible refine Up.drewN ?_ _) | (with_reducible refine Up.call ?_ (by with_reducible assumption))))
      · exact congrArg Value.string (ba_app (Lib.join (toks b) [32]) [10])

/-- What a log holds: boxes, their records, the bytes of a record that was not put whole, and so on. -/
structure Lg where
  sides : Int
  all : List (List Sp)
  recs : List (List UInt8)
  part : List UInt8
  safe : Nat
  left : Int
  stopped : Bool
def joinR (l : List (List UInt8)) : List UInt8 := l.flatMap (· ++ [10])
def Lg.text (l : Lg) : List UInt8 := joinR l.recs ++ l.part
structure Lg.Ok (l : Lg) : Prop where
  few : l.all.length ≤ 20
  recs : l.recs.length = l.all.length
  rows : ∀ r ∈ l.recs, r.length ≤ 126 ∧ ∀ x ∈ r, x ≠ 10
  boxes : ∀ b ∈ l.all, Bx b ∧ (b.length : Int) = l.sides
  part : l.part.length ≤ 127 ∧ ∀ x ∈ l.part, x ≠ 10
  whole : l.stopped = false → l.part = []
  safe : l.safe ≤ l.text.length
  left : -1 ≤ l.left ∧ l.left ≤ 9223372036854775807
theorem joinR_len {l : List (List UInt8)} (h : ∀ r ∈ l, r.length ≤ 126 ∧ ∀ x ∈ r, x ≠ 10) : (joinR l).length ≤ l.length * 127 := by
  induction l with
  | nil => simp [joinR]
  | cons r l ih =>
    have h1 := (h r (by simp)).1
    have h2 := ih (fun q hq => h q (by simp [hq]))
    simp only [joinR, List.flatMap_cons, List.length_append, List.length_cons, List.length_nil] at *
    omega
theorem Lg.Ok.size {l : Lg} (h : l.Ok) : l.text.length ≤ 2667 := by
  have h1 := joinR_len h.rows
  have h2 := h.part.1
  have h3 := h.few
  have h4 := h.recs
  unfold Lg.text
  rw [List.length_append]
  omega
/-- A row of spans that lies in none of the blocks Q. -/
def RdG (Q : Nat → Prop) (w : World) (A : Option Addr) (l : List Sp) : Prop := RdS w A l ∧ ∀ b o, A = some ⟨b, o, none⟩ → ¬ Q b
theorem keepsG (Q : Nat → Prop) : Keeps (RdG Q) := ⟨fun h hu => ⟨h.1.up hu, h.2⟩, fun h hg hr => ⟨keepsS.grown h.1 hg hr, h.2⟩⟩
theorem keepsG_up (Q : Nat → Prop) {w w' : World} {A : Option Addr} {l : List Sp} (h : RdG Q w A l) (hu : Up w w') : RdG Q w' A l := ⟨h.1.up hu, h.2⟩
abbrev OwnB (Q : Nat → Prop) := OwnR 35 (RdG Q)
structure Cells (W : World) (g : Nat) (v : Value) (l : Lg) : Prop where
  c0 : Cf W g 0 (.int .i64 l.sides)
  c1 : Cf W g 1 v
  c2 : Cf W g 2 (.string ⟨l.text.toArray⟩)
  c3 : Cf W g 3 (.int .i64 l.safe)
  c4 : Cf W g 4 (.int .i64 l.left)
  c5 : Cf W g 5 (.bool l.stopped)
/-- Block g holds this log; its row of boxes is v; what else it holds lies in none of the blocks Q. -/
structure LogS (Q : Nat → Prop) (W : World) (g : Nat) (v : Value) (l : Lg) : Prop where
  cells : Cells W g v l
  own : OwnB Q W (g + 1) v l.all
  ok : l.Ok
  qg : Q g
  low : ∀ b, Q b → b < W.heap.size
  vq : ∀ k, v.ownBlock = some k → ¬ Q k
/-- But for block g, and the row v, nothing has turned. -/
structure Mod (g : Nat) (v : Value) (w w' : World) : Prop where
  os : w'.os = w.os
  tape : w'.tape = w.tape
  output : w'.output = w.output
  size : w.heap.size ≤ w'.heap.size
  block : ∀ k, k < w.heap.size → k ≠ g → v.ownBlock ≠ some k → w'.heap[k]? = w.heap[k]?
theorem Mod.up {g : Nat} {v : Value} {w w' : World} (h : Up w w') : Mod g v w w' := ⟨h.os, h.tape, h.output, h.size, fun k hk _ _ => h.block k hk⟩
theorem Mod.on {g : Nat} {v : Value} {w w1 w2 : World} (h : Mod g v w w1) (hu : Up w1 w2) : Mod g v w w2 :=
  ⟨hu.os.trans h.os, hu.tape.trans h.tape, hu.output.trans h.output, Nat.le_trans h.size hu.size, fun k hk h1 h2 => (hu.block k (Nat.lt_of_lt_of_le hk h.size)).trans (h.block k hk h1 h2)⟩
theorem Mod.set {g : Nat} {v : Value} {w w1 : World} (h : Mod g v w w1) (o : Nat) (u : Value) : Mod g v w (w1.setCell ⟨g, o, none⟩ u) :=
  ⟨h.os, h.tape, h.output, by simpa using h.size, fun k hk h1 h2 => (Below.heap_setCell w1 ⟨g, o, none⟩ u k h1).trans (h.block k hk h1 h2)⟩
theorem Mod.grown {g : Nat} {v : Value} {w w1 w2 : World} (h : Mod g v w w1) (hg : w1.grownBy w2 v.ownBlock) : Mod g v w w2 :=
  ⟨hg.os.trans h.os, hg.tape.trans h.tape, hg.output.trans h.output, Nat.le_trans h.size hg.size, fun k hk h1 h2 => (hg.block k (Nat.lt_of_lt_of_le hk h.size) (fun e => h2 e.symm)).trans (h.block k hk h1 h2)⟩
/-- What lies below both is as it was. -/
theorem Mod.below {W w w' : World} {g : Nat} {v : Value} (h : Mod g v w w') (hu : Up W w) (hg : W.heap.size ≤ g) (hv : ∀ k, v.ownBlock = some k → W.heap.size ≤ k) : Up W w' :=
  ⟨h.os.trans hu.os, h.tape.trans hu.tape, h.output.trans hu.output, Nat.le_trans hu.size h.size, fun k hk => (h.block k (Nat.lt_of_lt_of_le hk hu.size) (by omega) (fun e => by have := hv k e; omega)).trans (hu.block k hk)⟩
theorem Mod.cf {w w' : World} {g : Nat} {v : Value} (h : Mod g v w w') {b o : Nat} {u : Value} (hc : Cf w b o u) (h1 : b ≠ g) (h2 : v.ownBlock ≠ some b) : Cf w' b o u := by
  have hb := World.block_lt_of_cell? _ _ hc.1
  have e := h.block b hb h1 h2
  exact ⟨(World.cell?_of_block (a := ⟨b, o, none⟩) e).trans hc.1, (World.frozen?_of_block (a := ⟨b, o, none⟩) e).trans hc.2⟩
theorem LogS.gt {Q : Nat → Prop} {W : World} {g : Nat} {v : Value} {l : Lg} (h : LogS Q W g v l) : ∀ k, v.ownBlock = some k → g < k ∧ k < W.heap.size := fun k hk => h.own.lt k hk
theorem LogS.lt {Q : Nat → Prop} {W : World} {g : Nat} {v : Value} {l : Lg} (h : LogS Q W g v l) : g < W.heap.size := World.block_lt_of_cell? _ _ h.cells.c0.1
theorem Cells.up {W W' : World} {g : Nat} {v : Value} {l : Lg} (h : Cells W g v l) (hu : Up W W') : Cells W' g v l := ⟨Cf.up h.c0 hu, Cf.up h.c1 hu, Cf.up h.c2 hu, Cf.up h.c3 hu, Cf.up h.c4 hu, Cf.up h.c5 hu⟩
theorem LogS.up {Q : Nat → Prop} {W W' : World} {g : Nat} {v : Value} {l : Lg} (h : LogS Q W g v l) (hu : Up W W') : LogS Q W' g v l := ⟨h.cells.up hu, h.own.up (keepsG Q) hu, h.ok, h.qg, fun b hb => Nat.lt_of_lt_of_le (h.low b hb) hu.le, h.vq⟩
/-- The row stays where the log's own block turns. -/
theorem OwnB.setG {Q : Nat → Prop} {W : World} {g : Nat} {v : Value} {L : List (List Sp)} (h : OwnB Q W (g + 1) v L) (hq : Q g) (o : Nat) (u : Value) : OwnB Q (W.setCell ⟨g, o, none⟩ u) (g + 1) v L := by
  have hgr : W.grownBy (W.setCell ⟨g, o, none⟩ u) (some g) := ⟨rfl, rfl, rfl, by simp, fun k _ hk => Below.heap_setCell W _ u k (fun e => hk (by rw [e]))⟩
  have hne : v.ownBlock ≠ some g := fun e => by have := (h.lt g e).1; omega
  obtain ⟨vs, h1, h2⟩ := h
  refine ⟨vs, World.ownsRow.kept h1 hgr (.inr hne), fun k hk => ?_⟩
  obtain ⟨A, c, q1, q2, q3, q4⟩ := h2 k hk
  exact ⟨A, c, q1, q2, (keepsG Q).grown q3 hgr (fun b o e => by have h9 := q3.2 b o e; intro e2; injection e2 with e2; subst e2; exact h9 hq), fun b o e => ⟨by simpa using (q4 b o e).1, (q4 b o e).2⟩⟩
theorem Cells.set {W : World} {g : Nat} {v : Value} {l : Lg} (h : Cells W g v l) :
    (∀ n : Nat, Cells (W.setCell ⟨g, 3, none⟩ (.int .i64 n)) g v { l with safe := n }) ∧ (∀ n : Int, Cells (W.setCell ⟨g, 4, none⟩ (.int .i64 n)) g v { l with left := n }) ∧
    (∀ n : Bool, Cells (W.setCell ⟨g, 5, none⟩ (.bool n)) g v { l with stopped := n }) ∧ (∀ u : Value, Cells (W.setCell ⟨g, 1, none⟩ u) g u l) ∧
    (∀ (rs : List (List UInt8)) (pt t : List UInt8), t = joinR rs ++ pt → Cells (W.setCell ⟨g, 2, none⟩ (.string ⟨t.toArray⟩)) g v { l with recs := rs, part := pt }) :=
  ⟨fun n => ⟨Cf.far h.c0 (.inr (by decide)), Cf.far h.c1 (.inr (by decide)), Cf.far h.c2 (.inr (by decide)), Cf.put _ h.c3, Cf.far h.c4 (.inr (by decide)), Cf.far h.c5 (.inr (by decide))⟩,
   fun n => ⟨Cf.far h.c0 (.inr (by decide)), Cf.far h.c1 (.inr (by decide)), Cf.far h.c2 (.inr (by decide)), Cf.far h.c3 (.inr (by decide)), Cf.put _ h.c4, Cf.far h.c5 (.inr (by decide))⟩,
   fun n => ⟨Cf.far h.c0 (.inr (by decide)), Cf.far h.c1 (.inr (by decide)), Cf.far h.c2 (.inr (by decide)), Cf.far h.c3 (.inr (by decide)), Cf.far h.c4 (.inr (by decide)), Cf.put _ h.c5⟩,
   fun u => ⟨Cf.far h.c0 (.inr (by decide)), Cf.put _ h.c1, Cf.far h.c2 (.inr (by decide)), Cf.far h.c3 (.inr (by decide)), Cf.far h.c4 (.inr (by decide)), Cf.far h.c5 (.inr (by decide))⟩,
   fun rs pt t e => ⟨Cf.far h.c0 (.inr (by decide)), Cf.far h.c1 (.inr (by decide)), by subst e; exact Cf.put _ h.c2, Cf.far h.c3 (.inr (by decide)), Cf.far h.c4 (.inr (by decide)), Cf.far h.c5 (.inr (by decide))⟩⟩
/-- One step nearer to where it stops. -/
def stepF (l : Lg) : Lg := { l with stopped := l.left == 0, left := max (-1) (l.left - 1) }
set_option maxRecDepth 100000 in
set_option maxHeartbeats 4000000 in
theorem step_any (g : Nat) (v : Value) (l : Lg) (w : World) (h : Cells w g v l) (hk : -1 ≤ l.left ∧ l.left ≤ 9223372036854775807) :
    Calls Tryd.prog 41 #[.pointer (some ⟨g, 0, none⟩)] w fun e w' => e = .returned (.bool (l.left == 0)) ∧ w' = (w.setCell ⟨g, 5, none⟩ (.bool (l.left == 0))).setCell ⟨g, 4, none⟩ (.int .i64 (max (-1) (l.left - 1))) := by
  obtain ⟨c4, f4⟩ := h.c4
  obtain ⟨c5, f5⟩ := h.c5
  have lg := World.block_lt_of_cell? _ _ c4
  dsimp only at lg
  obtain ⟨k1, k2⟩ := hk
  clear h
  go_enter Tryd.func41, Tryd.ntmps41
  go_wp2
  go_ret
  exact ⟨rfl, rfl⟩
end Go.Proofs.YtopgjbjpmnlldaaDoor
