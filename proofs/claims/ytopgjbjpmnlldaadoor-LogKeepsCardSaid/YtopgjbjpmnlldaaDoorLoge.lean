/- The log, part five: the crash walked; the log beside a box of the caller's own. -/
import Derived.Test.YtopgjbjpmnlldaaDoorLogd

set_option linter.unusedVariables false
set_option linter.unusedSimpArgs false
namespace Go.Proofs.YtopgjbjpmnlldaaDoor
open Go.RowKit

theorem keep_int (l : Lg) (keep : Int) : (l.safe : Int) + max 0 (min keep ((l.text.length : Int) - l.safe)) = (keepN l keep : Int) := by
  unfold keepN; omega
theorem keep_le {l : Lg} (h : l.Ok) (keep : Int) : keepN l keep ≤ l.text.length := by
  have := h.safe
  unfold keepN; omega
theorem lastidx_at (t : List UInt8) {q : List UInt8} (n : Nat) (ht : t.length = n) (rs : List (List UInt8)) (he : t = joinR rs ++ q) (hq : ∀ x ∈ q, x ≠ 10) (w : World) (hs : t.length ≤ 100000) :
    Calls Tryd.prog 44 #[.string ⟨t.toArray⟩, .string ⟨#[10]⟩] w fun e w' => e = .returned (.int .i64 ((joinR rs).length - 1)) ∧ w' = w := by
  have h := Tryd.strings_LastIndex_one ⟨t.toArray⟩ ⟨#[10]⟩ rfl (by simp [ByteArray.size]; omega) w
  have e : Lib.lastIndexByte ⟨t.toArray⟩ (((⟨#[10]⟩ : ByteArray)[0]'(by decide)).toNat : Int) = (joinR rs).length - 1 := by
    rw [he]; exact lastIdx_join hq
  rw [e] at h
  exact h
theorem wrap_midl {n : Int} (h1 : -9000000000000000000 ≤ n) (h2 : n ≤ 9000000000000000000) : IntKind.i64.wrap n = n := by
  show (if (true && decide (n % 18446744073709551616 ≥ 9223372036854775808)) = true then n % 18446744073709551616 - 18446744073709551616 else n % 18446744073709551616) = n
  by_cases h : n % 18446744073709551616 ≥ 9223372036854775808
  · rw [if_pos (by simpa using h)]; omega
  · rw [if_neg (by simpa using h)]; omega
theorem count_at (rs : List (List UInt8)) (h : ∀ r ∈ rs, ∀ x ∈ r, x ≠ 10) (w : World) :
    Calls Tryd.prog 45 #[.string ⟨(joinR rs).toArray⟩, .string ⟨#[10]⟩] w fun e w' => e = .returned (.int .i64 (rs.length : Int)) ∧ w' = w := by
  have h1 := Tryd.strings_Count_one ⟨(joinR rs).toArray⟩ 10 w
  have e : Lib.countByte (⟨(joinR rs).toArray⟩ : ByteArray).data.toList 10 = rs.length := by simpa [Lib.countByte] using count_join h
  rw [e] at h1
  exact h1
theorem lastidx_j (rs : List (List UInt8)) {q : List UInt8} (hq : ∀ x ∈ q, x ≠ 10) (w : World) (hs : (joinR rs ++ q).length ≤ 100000) :
    Calls Tryd.prog 44 #[.string ⟨(joinR rs ++ q).toArray⟩, .string ⟨#[10]⟩] w fun e w' => e = .returned (.int .i64 ((joinR rs).length - 1)) ∧ w' = w := lastidx_at _ _ rfl rs rfl hq w hs
set_option maxRecDepth 100000 in
set_option maxHeartbeats 4000000 in
theorem crash_any {Q : Nat → Prop} (g : Nat) (v : Value) (l : Lg) (keep : Int) (w : World) (h : LogS Q w g v l) (hn : I64 keep) :
    Calls Tryd.prog 19 #[.pointer (some ⟨g, 0, none⟩), .int .i64 keep] w (RetL Q g v w (.tuple #[]) (crashF l keep)) := by
  obtain ⟨c1, f1⟩ := h.cells.c1
  obtain ⟨c2, f2⟩ := h.cells.c2
  obtain ⟨c3, f3⟩ := h.cells.c3
  obtain ⟨c4, f4⟩ := h.cells.c4
  obtain ⟨c5, f5⟩ := h.cells.c5
  have lg := World.block_lt_of_cell? _ _ c3
  dsimp only at lg
  have hsz := h.ok.size
  have hsafe := h.ok.safe
  obtain ⟨A, cp, rfl, hcp, -⟩ := h.at
  have hki := keep_int l keep
  have hkl := keep_le h.ok keep
  obtain ⟨q, hq, hq2⟩ := whole_take l.recs l.part (keepN l keep) (fun r hr => (h.ok.rows r hr).2) h.ok.part.2
  have hwl := whole_le l.recs (keepN l keep)
  have H := hid h
  obtain ⟨k1, k2⟩ := hn
  have hw1 : IntKind.i64.wrap ((l.text.length : Int) - l.safe) = (l.text.length : Int) - l.safe := wrap_midl (by omega) (by omega)
  have hw2 : IntKind.i64.wrap ((l.safe : Int) + max 0 (min keep ((l.text.length : Int) - l.safe))) = (keepN l keep : Int) := by rw [hki]; exact wrap_midl (by omega) (by omega)
  have hex : (⟨l.text.toArray⟩ : ByteArray).extract 0 (keepN l keep) = ⟨(joinR (l.recs.take (wholeN l.recs (keepN l keep))) ++ q).toArray⟩ := by rw [ba_ext]; unfold Lg.text; rw [hq]
  have hlen : (joinR (l.recs.take (wholeN l.recs (keepN l keep))) ++ q).length ≤ 100000 := by rw [← hq, List.length_take]; omega
  have hrl : (l.recs.take (wholeN l.recs (keepN l keep))).length = wholeN l.recs (keepN l keep) := by rw [List.length_take]; omega
  have hno : ∀ r ∈ l.recs.take (wholeN l.recs (keepN l keep)), ∀ x ∈ r, x ≠ 10 := fun r hr => (h.ok.rows r (List.mem_of_mem_take hr)).2
  have hex2 : (⟨(joinR (l.recs.take (wholeN l.recs (keepN l keep))) ++ q).toArray⟩ : ByteArray).extract 0 (joinR (l.recs.take (wholeN l.recs (keepN l keep)))).length = ⟨(joinR (l.recs.take (wholeN l.recs (keepN l keep)))).toArray⟩ := by rw [ba_ext, List.take_left']; rfl
  have hlr : l.recs.length = l.all.length := h.ok.recs
  have h20 := h.ok.few
  have Hcr := hid (crash_ok h.ok keep)
  have Hcf := hid (show crashF l keep = { l with all := l.all.take (wholeN l.recs (keepN l keep)), recs := l.recs.take (wholeN l.recs (keepN l keep)), part := [], safe := (joinR (l.recs.take (wholeN l.recs (keepN l keep)))).length, left := -1, stopped := false } from rfl)
  have Hex := hid hex; have Hex2 := hid hex2; have Hrl := hid hrl; have Hno := hid hno; have Hq2 := hid hq2
  clear h hq hq2 hex hex2 hrl hno
  generalize hR : l.recs.take (wholeN l.recs (keepN l keep)) = R at *
  generalize wholeN l.recs (keepN l keep) = c at *
  generalize hm : keepN l keep = m at *
  have hl2 : (joinR R ++ q).length = (joinR R).length + q.length := List.length_append
  have hw3 : IntKind.i64.wrap (((joinR R).length : Int) - 1 + 1) = ((joinR R).length : Int) := by rw [wrap_midl (by omega) (by omega)]; omega
  have hq0 : ((joinR R).length : Int) ≤ ((joinR R ++ q).length : Int) := by omega
  have hq1 : ¬ ((joinR R ++ q).length : Int) < ((joinR R).length : Int) := by omega
  have hsub : ((joinR R).length : Int) - 1 + 1 = (joinR R).length := by omega
  have hccp : c ≤ cp := by omega
  go_enter Tryd.func19, Tryd.ntmps19
  go_wp2_with fail
  go_region
  all_goals rw [Hex.out]
  all_goals go_wp2_with (first
                        | (go_at_call 44; refine (lastidx_j R Hq2.out _ hlen).mono ?_; rintro e w1 ⟨rfl, rfl⟩))
  all_goals rw [Hex2.out]
  all_goals go_region_law (go_simp; go_at_call 45; refine (count_at R Hno.out _).mono ?_; rintro e w1 ⟨rfl, rfl⟩; rw [Hrl.out])
  all_goals go_wp2
  all_goals go_end0
  all_goals
    refine ⟨.slice A c cp, rfl, ?_, ?_, .inl ?_⟩
    · have e1 := ((((H.out.cells.set.2.2.2.1 (.slice A c cp)).set.2.2.2.2 R [] (joinR R) (by simp)).set.1 (joinR R).length).set.2.1 (-1)).set.2.2.1 false
      have e0 : OwnB Q w (g + 1) (.slice A c cp) (l.all.take c) := OwnR.cut H.out.own (by omega)
      have hq := H.out.qg
      have e2 := OwnB.setG (OwnB.setG (OwnB.setG (OwnB.setG (OwnB.setG e0 hq 1 (.slice A c cp)) hq 2 (.string ⟨(joinR R).toArray⟩)) hq 3 (.int .i64 ((joinR R).length : Nat))) hq 4 (.int .i64 (-1))) hq 5 (.bool false)
      rw [Hcf.out]
      have Hc2 := Hcr.out
      rw [Hcf.out] at Hc2
      exact LogS.up ⟨⟨e1.c0, e1.c1, e1.c2, e1.c3, e1.c4, e1.c5⟩, e2, Hc2, hq, fun b hb => by have := H.out.low b hb; simpa using this, fun k hk => H.out.vq k (by revert hk; cases A <;> exact id)⟩ (by (repeat (first | (with_reducible exact Up.refl _) | (with_reducible assumption) | (with_reducible refine Up.alloc ?_ _) | (with_reducible refine Up.drew ?_) | ((with_reducible refine Up.set ?_ ?_ _); rotate_left; focus (first | omega | (simp; done) | (simp; omega))) | (with_reducible refine Up.drewN ?_ _) | (with_reducible refine Up.call ?_ (by with_reducible assumption)))))
    · exact Mod.on ((((((Mod.up (Up.refl w)).set 1 _).set 2 _).set 3 _).set 4 _).set 5 _) (by (repeat (first | (with_reducible exact Up.refl _) | (with_reducible assumption) | (with_reducible refine Up.alloc ?_ _) | (with_reducible refine Up.drew ?_) | ((with_reducible refine Up.set ?_ ?_ _); rotate_left; focus (first | omega | (simp; done) | (simp; omega))) | (with_reducible refine Up.drewN ?_ _) | (with_reducible refine Up.call ?_ (by with_reducible assumption)))))
    · cases A <;> rfl
/-- The log in block g, a box x in block B, nothing else turned since w. -/
structure LgB (w W : World) (g B : Nat) (v : Value) (l : Lg) (x : List Sp) : Prop where
  log : LogS (fun b => b ≤ g) W g v l
  ne : v.ownBlock ≠ some B
  ng : B ≠ g
  lt : B < W.heap.size
  rd : RdS W (some ⟨B, 0, none⟩) x
  since : Up w W
  gw : w.heap.size ≤ g
theorem LgB.up {w W W' : World} {g B : Nat} {v : Value} {l : Lg} {x : List Sp} (h : LgB w W g B v l x) (hu : Up W W') : LgB w W' g B v l x :=
  ⟨h.log.up hu, h.ne, h.ng, Nat.lt_of_lt_of_le h.lt hu.le, h.rd.up hu, h.since.call hu, h.gw⟩
theorem LgB.on {w W W' : World} {g B : Nat} {v v' : Value} {l l' : Lg} {x : List Sp} (h : LgB w W g B v l x) (hl : LogS (fun b => b ≤ g) W' g v' l') (hm : Mod g v W W') (hv : v'.ownBlock = v.ownBlock ∨ ∃ k, v'.ownBlock = some k ∧ W.heap.size ≤ k) : LgB w W' g B v' l' x := by
  refine ⟨hl, ?_, h.ng, Nat.lt_of_lt_of_le h.lt hm.size, ?_, hm.below h.since h.gw (fun k hk => by have := (h.log.gt k hk).1; have := h.gw; omega), h.gw⟩
  · intro e
    rcases hv with e2 | ⟨k, e2, e3⟩
    · exact h.ne (e2.symm.trans e)
    · rw [e2] at e
      injection e with e
      have := h.lt
      omega
  · intro hx
    obtain ⟨b, o, e, hb, hc⟩ := h.rd hx
    injection e with e
    injection e with e1 e2
    subst e1 e2
    have hblk := hm.block B h.lt h.ng h.ne
    exact ⟨B, 0, rfl, Nat.lt_of_lt_of_le h.lt hm.size, fun k hk => ⟨(World.cell?_of_block (a := ⟨B, 0 + k * 2, none⟩) hblk).trans (hc k hk).1, (World.cell?_of_block (a := ⟨B, 0 + k * 2 + 1, none⟩) hblk).trans (hc k hk).2⟩⟩
/-- What a call upon the log comes to, beside a box. -/
def RetB (w : World) (g B : Nat) (r : Value) (l' : Lg) (x : List Sp) (e : Ending) (W' : World) : Prop := ∃ v', e = .returned r ∧ LgB w W' g B v' l' x
theorem RetL.b {w W : World} {g B : Nat} {v r : Value} {l l' : Lg} {x : List Sp} {e : Ending} {W' : World} (h : LgB w W g B v l x) (hr : RetL (fun b => b ≤ g) g v W r l' e W') : RetB w g B r l' x e W' := by
  obtain ⟨v', e1, h1, h2, h3⟩ := hr
  exact ⟨v', e1, h.on h1 h2 h3⟩
theorem fail_B {w W : World} {g B : Nat} {v : Value} {l : Lg} {x : List Sp} (n : Int) (h : LgB w W g B v l x) (hn : I64 n) : Calls Tryd.prog 17 #[.pointer (some ⟨g, 0, none⟩), .int .i64 n] W (RetB w g B (.tuple #[]) (failF l n) x) :=
  (fail_any g v l n W h.log hn).mono fun _ _ hr => RetL.b h hr
theorem crash_B {w W : World} {g B : Nat} {v : Value} {l : Lg} {x : List Sp} (n : Int) (h : LgB w W g B v l x) (hn : I64 n) : Calls Tryd.prog 19 #[.pointer (some ⟨g, 0, none⟩), .int .i64 n] W (RetB w g B (.tuple #[]) (crashF l n) x) :=
  (crash_any g v l n W h.log hn).mono fun _ _ hr => RetL.b h hr
theorem sync_B {w W : World} {g B : Nat} {v : Value} {l l' : Lg} {x : List Sp} {r : Option Nat} (h : LgB w W g B v l x) (hs : syncF l = (r, l')) : Calls Tryd.prog 18 #[.pointer (some ⟨g, 0, none⟩)] W (RetB w g B (errV r) l' x) :=
  (sync_any g v l W h.log).mono fun _ _ hr => by rw [hs] at hr; exact RetL.b h hr
theorem put_B {w W : World} {g B : Nat} {v : Value} {l l' : Lg} {x b : List Sp} {r : Option Nat} {A : Option Addr} {c : Nat} (h : LgB w W g B v l x) (hs : putF l b = (r, l')) (hb : RdS W A b) (hbg : ∀ k o, A = some ⟨k, o, none⟩ → k ≠ g) (hp : Pow w) :
    Calls Tryd.prog 13 #[.pointer (some ⟨g, 0, none⟩), .slice A b.length c] W (RetB w g B (errV r) l' x) :=
  (put_any g v l A b c W h.log hb (fun _ => hbg) (hp.up h.since)).mono fun _ _ hr => by rw [hs] at hr; exact RetL.b h hr
set_option maxRecDepth 100000 in
theorem putNil_B {w W : World} {g B : Nat} {v : Value} {l l' : Lg} {x : List Sp} {r : Option Nat} (h : LgB w W g B v l x) (hs : putF l [] = (r, l')) (hp : Pow w) :
    Calls Tryd.prog 13 #[.pointer (some ⟨g, 0, none⟩), .slice none 0 0] W (RetB w g B (errV r) l' x) :=
  put_B (b := []) (A := none) (c := 0) h hs (RdS.nil W none) (fun k o e => by cases e) hp
set_option maxRecDepth 100000 in
theorem putOne_B {w W : World} {g B : Nat} {v : Value} {l l' : Lg} {x : List Sp} {r : Option Nat} {b : Nat} {lo hi : Int} (h : LgB w W g B v l x) (hs : putF l [⟨lo, hi⟩] = (r, l')) (h0 : W.cell? ⟨b, 0, none⟩ = some (.int .i64 lo)) (h1 : W.cell? ⟨b, 1, none⟩ = some (.int .i64 hi)) (hbg : b ≠ g) (hp : Pow w) :
    Calls Tryd.prog 13 #[.pointer (some ⟨g, 0, none⟩), .slice (some ⟨b, 0, none⟩) 1 1] W (RetB w g B (errV r) l' x) :=
  put_B (b := [⟨lo, hi⟩]) (A := some ⟨b, 0, none⟩) (c := 1) h hs (rds1 h0 h1) (fun k o e => by injection e with e; injection e with e; omega) hp
set_option maxRecDepth 100000 in
theorem putX_B {w W : World} {g B : Nat} {v : Value} {l l' : Lg} {s : Sp} {r : Option Nat} (h : LgB w W g B v l [s]) (hs : putF l [s] = (r, l')) (hp : Pow w) :
    Calls Tryd.prog 13 #[.pointer (some ⟨g, 0, none⟩), .slice (some ⟨B, 0, none⟩) 1 1] W (RetB w g B (errV r) l' [s]) :=
  put_B (b := [s]) (A := some ⟨B, 0, none⟩) (c := 1) h hs h.rd (fun k o e => by injection e with e; injection e with e; have := h.ng; omega) hp
theorem bcheck_lit {s : Sp} (hs : bcheckF [s] = none) (A : Option Addr) (c : Nat) (W : World) (hr : RdS W A [s]) : Calls Tryd.prog 20 #[.slice A 1 c] W (RetX errV none W) := by
  have h := bcheck_any A [s] c W hr
  rw [hs] at h
  exact h
end Go.Proofs.YtopgjbjpmnlldaaDoor
