/- slices.Clone of a row of spans; box.Widest, Halves, Halve. -/
import Derived.Test.YtknkpjfoaijaoaaOwnS
import Derived.Test.YtknkpjfoaijaoaaBoxd
import Derived.Test.YtknkpjfoaijaoaaPower
import Derived.Test.YtknkpjfoaijaoaaCenterb
import Derived.Test.YtknkpjfoaijaoaaHas
import Derived.ArgAppend
import Derived.Laws.OwnMore
import Derived.Deep.Onto
import Derived.Lib.BufferMore
set_option linter.unusedVariables false
set_option linter.unusedSimpArgs false
namespace Go.Proofs.Ytknkpjfoaijaoaa
open Go.RowKit

theorem spans_cells {w : World} {b o : Nat} {l : List Sp} (h : ∀ k, k < l.length → w.cell? ⟨b, o + k * 2, none⟩ = some (.int .i64 (l[k]?.getD ⟨0, 0⟩).lo) ∧ w.cell? ⟨b, o + k * 2 + 1, none⟩ = some (.int .i64 (l[k]?.getD ⟨0, 0⟩).hi)) :
    ∀ j u, (spans l)[j]? = some u → w.cell? ((⟨b, o, none⟩ : Addr).add j) = some u := by
  intro j u hj
  have hlt : j < (spans l).length := (List.getElem?_eq_some_iff.1 hj).1
  rw [spans_len] at hlt
  have ea : (⟨b, o, none⟩ : Addr).add j = ⟨b, o + j, none⟩ := by unfold Addr.add; split <;> simp_all
  rw [ea]
  obtain ⟨k, hk, hjk⟩ : ∃ k, k < l.length ∧ (j = k * 2 ∨ j = k * 2 + 1) := ⟨j / 2, by omega, by omega⟩
  obtain ⟨h1, h2⟩ := h k hk
  obtain ⟨e1, e2⟩ := spans_at l k hk
  rcases hjk with rfl | rfl
  · rw [e1] at hj; injection hj with hj; rw [← hj]; exact h1
  · rw [e2] at hj; injection hj with hj; rw [← hj]; exact h2
theorem spans_one (l : List Sp) : ∀ u ∈ spans l, u.oneCell' = true := by
  intro u hu
  unfold spans at hu
  obtain ⟨s, -, hs⟩ := List.mem_flatMap.1 hu
  simp at hs
  rcases hs with rfl | rfl <;> rfl
/-- A row of the call's own, handed back. -/
def ownR (base : Nat) (w : World) (l : List Sp) (v : Value) : Prop := OwnS w base v l
set_option maxRecDepth 100000 in
set_option maxHeartbeats 1000000 in
theorem sclone_any (A : Option Addr) (l : List Sp) (c : Nat) (w : World) (hr : RdS w A l) (h0 : 0 < l.length) (hm : l.length ≤ 1000) :
    Calls Try.prog 18 #[.slice A l.length c] w (RetR (ownR w.heap.size) l w) := by
  obtain ⟨i0, hi0, hz0, hz1, hz2⟩ := info_parts Try.infoSpan
  obtain ⟨b, o, rfl, hb, hc⟩ := hr.at h0
  have Hc := hid hc; have Hm := hid hm; have H0 := hid h0; clear hc hr hm h0
  go_enter Try.func18, Try.ntmps18
  have hnil : ∀ w', (binOp .eql 23 (.slice (some ⟨b, o, none⟩) l.length c) (.slice none 0 0)).run Try.prog w' = .ok (.bool false) w' := fun w' => Go.Lib.run_eql_slice_some_nil w' _ _ _ Try.underlying23
  have hH := H0.out
  go_wp2_with (at_builtin; refine wpList_append_grows _ rfl (.tmp 5) (.tmp 6) _ rfl 49 i0 (.agg #[.int .i64 0, .int .i64 0]) 2 16 Try.underlying23 hi0 hz0 hz1 hz2 rfl (by decide) (some ⟨w.heap.size, 0, none⟩) 0 0 [] rfl (fun h => by cases h) rfl (fun _ _ j u h => by simp at h) ⟨b, o, none⟩ l.length c (spans l) rfl (spans_len l) (fun j u hj => ?_) (spans_one l) (by have := H0.out; omega) (by have := Hm.out; unfold maxLen; omega) (by have := Hm.out; omega) ?_; rotate_left; intro v8 w2 own8 g8)
  · have hown : OwnS w2 (w.heap.size + 1) v8 l := by unfold OwnS; simpa using own8
    have Hown := hid hown
    have hU : Up w w2 := Below.grown ((Up.refl w).alloc (Obj.cells #[] 49)) g8 (by simp) (fun j hj => by cases hj)
    clear own8 hown
    go_ret
    exact RetR.mk l hU rfl (rel := ownR w.heap.size) (World.ownsRow.mono Hown.out (Nat.le_succ _))
  · refine spans_cells (w := w.alloc _) (fun k hk => ?_) j u hj
    obtain ⟨h1, h2⟩ := Hc.out k hk
    have hl := ((Up.refl w).alloc (Obj.cells #[] 49))
    exact ⟨(Below.cell hl (p := ⟨b, o + k * 2, none⟩) hb).trans h1, (Below.cell hl (p := ⟨b, o + k * 2 + 1, none⟩) hb).trans h2⟩
theorem widestG_no {s : Sp} {l : List Sp} {i a : Nat} {v : Int} (h : ¬ v < widthF s) : widestG (s :: l) i a v = widestG l (i + 1) a v := by
  conv => lhs; unfold widestG
  rw [if_neg h]
theorem widestG_yes {s : Sp} {l : List Sp} {i a : Nat} {v : Int} (h : v < widthF s) : widestG (s :: l) i a v = widestG l (i + 1) i (widthF s) := by
  conv => lhs; unfold widestG
  rw [if_pos h]
set_option maxRecDepth 100000 in
set_option maxHeartbeats 1000000 in
theorem widest_any (A : Option Addr) (l : List Sp) (c : Nat) (w : World) (hr : RdS w A l) (h0 : 0 < l.length) (hm : l.length ≤ 1000) (hs : ∀ s ∈ l, Rt s) :
    Calls Try.prog 75 #[.slice A l.length c] w (RetX intV (widestF l : Int) w) := by
  obtain ⟨b, o, rfl, hb, hc⟩ := hr.at h0
  have Hc := hid hc
  have Hm := hid hm
  have Hs := hid (fun k (hk : k < l.length) => hs (l[k]?.getD ⟨0, 0⟩) (by rw [List.getElem?_eq_getElem hk]; exact List.getElem_mem hk))
  clear hc hr hm hs
  go_enter Try.func75, Try.ntmps75
  go_wp2
  go_loopw [3, 8] (fun av i wr => ∃ (k a : Nat), k ≤ l.length ∧ a < l.length ∧ i = .int .i64 k ∧ av = .int .i64 a ∧ Hid (widestF l = widestG (l.drop k) k a (widthF (l[a]?.getD ⟨0, 0⟩))) ∧ Up w wr) (fun _ i _ => l.length - (intOf i).toNat)
  case atStart => exact ⟨0, 0, by omega, h0, rfl, rfl, rfl, Up.refl _⟩
  case round =>
    obtain ⟨k, a, hk, ha, rfl, rfl, H, hU⟩ := hrel
    have gr := (bcell hU).1
    have hle := hU.le
    have h32 := Hm.out
    by_cases hlt : k < l.length
    · obtain ⟨c1, c2⟩ := Hc.out k hlt
      obtain ⟨c3, c4⟩ := Hc.out a ha
      have Hdr := hid (sdrop l k hlt)
      obtain ⟨⟨r1, r2⟩, ⟨r3, r4⟩, r5⟩ := Hs.out k hlt
      obtain ⟨⟨t1, t2⟩, ⟨t3, t4⟩, t5⟩ := Hs.out a ha
      have j1 := (gr _ _ hb).trans c1
      have j2 := (gr _ _ hb).trans c2
      have j3 := (gr _ _ hb).trans c3
      have j4 := (gr _ _ hb).trans c4
      have hkm : (k : Int) < (l.length : Int) := by omega
      have ham : (a : Int) < (l.length : Int) := by omega
      have hk0 : (0 : Int) ≤ (k : Int) := by omega
      have ha0 : (0 : Int) ≤ (a : Int) := by omega
      have hdk : decide ((k : Int) < (l.length : Int)) = true := by simp; omega
      have lbr : b < wr.heap.size := by omega
      have Hlt := hid hlt
      have Ha := hid ha
      generalize hgs : l[k]?.getD ⟨0, 0⟩ = s at *
      generalize hgt : l[a]?.getD ⟨0, 0⟩ = t at *
      have Hgs := hid hgs; have Hgt := hid hgt
      clear c1 c2 c3 c4 gr hlt hgs hgt
      by_cases hw : t.hi - t.lo < s.hi - s.lo
      · have hd : decide (t.hi - t.lo < s.hi - s.lo) = true := by simpa using hw
        have Hw := hid (show widthF t < widthF s from hw)
        clear hw
        go_wp2_with fail
        go_quiet (fail)
        go_wp2
        go_roundw
        case rel =>
          refine ⟨k + 1, k, by have := Hlt.out; omega, Hlt.out, by go_num, by go_num, ?_, ?_⟩
          · show _ = _
            rw [H.out, Hdr.out, Hgs.out]
            exact widestG_yes Hw.out
          · (repeat (first | (with_reducible exact Up.refl _) | (with_reducible assumption) | (with_reducible refine Up.alloc ?_ _) | (with_reducible refine Up.drew ?_) | ((with_reducible refine Up.set ?_ ?_ _); rotate_left; focus (first | omega | (simp; done) | (simp; omega))) | (with_reducible refine Up.drewN ?_ _) | (with_reducible refine Up.call ?_ (by with_reducible assumption))))
        case measure => have := Hlt.out; simp [intOf]; omega
      · have hd : decide (t.hi - t.lo < s.hi - s.lo) = false := by simpa using hw
        have Hw := hid (show ¬ widthF t < widthF s from hw)
        clear hw
        go_wp2_with fail
        go_quiet (fail)
        go_wp2
        go_roundw
        case rel =>
          refine ⟨k + 1, a, by have := Hlt.out; omega, Ha.out, by go_num, by go_num, ?_, ?_⟩
          · show _ = _
            rw [H.out, Hdr.out, Hgt.out]
            exact widestG_no (by have := Hw.out; omega)
          · (repeat (first | (with_reducible exact Up.refl _) | (with_reducible assumption) | (with_reducible refine Up.alloc ?_ _) | (with_reducible refine Up.drew ?_) | ((with_reducible refine Up.set ?_ ?_ _); rotate_left; focus (first | omega | (simp; done) | (simp; omega))) | (with_reducible refine Up.drewN ?_ _) | (with_reducible refine Up.call ?_ (by with_reducible assumption))))
        case measure => have := Hlt.out; simp [intOf]; omega
    · obtain rfl : k = l.length := by omega
      go_wp2
      go_ret
      refine RetX.mk (a : Int) hU ?_ rfl
      rw [H.out, List.drop_length]
      rfl
theorem spans_set (l : List Sp) (i : Nat) (hi : i < l.length) (n : Int) :
    (spans l).set (i * 2) (.int .i64 n) = spans (l.set i ⟨n, (l[i]?.getD ⟨0, 0⟩).hi⟩) ∧ (spans l).set (i * 2 + 1) (.int .i64 n) = spans (l.set i ⟨(l[i]?.getD ⟨0, 0⟩).lo, n⟩) := by
  induction l generalizing i with
  | nil => simp at hi
  | cons s l ih =>
    match i with
    | 0 => exact ⟨rfl, rfl⟩
    | i + 1 =>
      have h := ih i (by simpa using hi)
      have e1 : (i + 1) * 2 = i * 2 + 1 + 1 := by omega
      rw [e1]
      simp only [spans, List.flatMap_cons, List.cons_append, List.nil_append, List.set_cons_succ, List.getElem?_cons_succ] at *
      exact ⟨by rw [h.1], by rw [h.2]⟩
theorem halvesF_eq (l : List Sp) : halvesF l = (l.set (widestF l) ⟨(l[widestF l]?.getD ⟨0, 0⟩).lo, halfF (l[widestF l]?.getD ⟨0, 0⟩)⟩, l.set (widestF l) ⟨halfF (l[widestF l]?.getD ⟨0, 0⟩), (l[widestF l]?.getD ⟨0, 0⟩).hi⟩) := rfl
/-- Two rows of the call's own. -/
def own2 (base : Nat) (w : World) (p : List Sp × List Sp) (v : Value) : Prop := ∃ v1 v2, v = .tuple #[v1, v2] ∧ OwnS w base v1 p.1 ∧ OwnS w base v2 p.2
set_option maxRecDepth 100000 in
set_option maxHeartbeats 2000000 in
theorem halves_any (A : Option Addr) (l : List Sp) (c : Nat) (w : World) (hr : RdS w A l) (h0 : 0 < l.length) (hm : l.length ≤ 1000) (hs : ∀ s ∈ l, Rt s) :
    Calls Try.prog 63 #[.slice A l.length c] w (RetR (own2 w.heap.size) (halvesF l) w) := by
  have Hr := hid hr
  obtain ⟨b, o, rfl, hb, hc⟩ := hr.at h0
  have hwl := widestF_lt h0
  obtain ⟨d1, d2⟩ := hc (widestF l) hwl
  have hrt := hs _ (mem_at hwl)
  have hE := halvesF_eq l
  have Hcl := hid (fun W hW => sclone_any (some ⟨b, o, none⟩) l c W hW h0 hm)
  have Hwd := hid (fun W hW => widest_any (some ⟨b, o, none⟩) l c W hW h0 hm hs)
  have Hset := hid (fun n => spans_set l (widestF l) hwl n)
  unfold sAt at hrt
  generalize hgi : widestF l = i at *
  generalize hgs : l[i]?.getD ⟨0, 0⟩ = s at *
  have HE := hid hE; have Hm := hid hm; have HI := hid hgi; have H0 := hid h0; have Hil := hid (show i < l.length from hwl); have Hsp := hid (spans_at l i hwl)
  rw [hgs] at Hsp
  have hi0 : (0 : Int) ≤ (i : Int) := by omega
  have hil : (i : Int) < (l.length : Int) := by omega
  clear hr hc hm hs hE h0 hgi
  have Hhalf := hid (fun W => half_any s.lo s.hi W hrt.1 hrt.2.1)
  have HH := hid (half_bd hrt)
  clear hrt
  go_enter Try.func63, Try.ntmps63
  go_wp2_with (first
                        | ((go_at_call 18; have _n := hb1; clear _n; (with_reducible refine (Hcl.out _ (Hr.out.up (by (repeat (first | (with_reducible exact Up.refl _) | (with_reducible assumption) | (with_reducible refine Up.alloc ?_ _) | (with_reducible refine Up.drew ?_) | ((with_reducible refine Up.set ?_ ?_ _); rotate_left; focus (first | omega | (simp; done) | (simp; omega))) | (with_reducible refine Up.drewN ?_ _) | (with_reducible refine Up.call ?_ (by with_reducible assumption))))))).mono ?_); rintro e w2 ⟨x2, v2, hx2, rfl, hv2, hb2⟩ <;> (subst hx2; obtain ⟨g2, k2, rfl, gb2, gl2⟩ := World.ownsRow.form hv2 H0.out; have Hv2 := hid hv2; clear hv2)) <;> (have hle := Up.le hb2; (try simp only [World.size_alloc, World.size_setCell, World.size_drew, World.heap_drewN] at hle); (try (have _ : w.heap.size < w2.heap.size := (by omega); (try (apply fk hb2 (w.heap.size); (focus (go_simp; rfl)); (focus (intro o; go_simp)); intro z; (try clear f_0); have f_0 := z; clear z)); (try (apply ck hb2 (w.heap.size) 0; (focus (go_simp; rfl)); intro z; (try clear c_0_0); have c_0_0 := z; clear z; (try (apply ck hb2 (w.heap.size) 1; (focus (go_simp; rfl)); intro z; (try clear c_0_1); have c_0_1 := z; clear z)))); (try (have _ : w.heap.size + 1 < w2.heap.size := (by omega); (try (apply fk hb2 (w.heap.size + 1); (focus (go_simp; rfl)); (focus (intro o; go_simp)); intro z; (try clear f_1); have f_1 := z; clear z)); (try (apply ck hb2 (w.heap.size + 1) 0; (focus (go_simp; rfl)); intro z; (try clear c_1_0); have c_1_0 := z; clear z; (try (apply ck hb2 (w.heap.size + 1) 1; (focus (go_simp; rfl)); intro z; (try clear c_1_1); have c_1_1 := z; clear z)))); (try (have _ : w.heap.size + 1 + 1 < w2.heap.size := (by omega); (try (apply fk hb2 (w.heap.size + 1 + 1); (focus (go_simp; rfl)); (focus (intro o; go_simp)); intro z; (try clear f_2); have f_2 := z; clear z)); (try (apply ck hb2 (w.heap.size + 1 + 1) 0; (focus (go_simp; rfl)); intro z; (try clear c_2_0); have c_2_0 := z; clear z; (try (apply ck hb2 (w.heap.size + 1 + 1) 1; (focus (go_simp; rfl)); intro z; (try clear c_2_1); have c_2_1 := z; clear z)))); (try (have _ : w.heap.size + 1 + 1 + 1 < w2.heap.size := (by omega); (try (apply fk hb2 (w.heap.size + 1 + 1 + 1); (focus (go_simp; rfl)); (focus (intro o; go_simp)); intro z; (try clear f_3); have f_3 := z; clear z)); (try (apply ck hb2 (w.heap.size + 1 + 1 + 1) 0; (focus (go_simp; rfl)); intro z; (try clear c_3_0); have c_3_0 := z; clear z; (try (apply ck hb2 (w.heap.size + 1 + 1 + 1) 1; (focus (go_simp; rfl)); intro z; (try clear c_3_1); have c_3_1 := z; clear z)))); (try (have _ : w.heap.size + 1 + 1 + 1 + 1 < w2.heap.size := (by omega); (try (apply fk hb2 (w.heap.size + 1 + 1 + 1 + 1); (focus (go_simp; rfl)); (focus (intro o; go_simp)); intro z; (try clear f_4); have f_4 := z; clear z)); (try (apply ck hb2 (w.heap.size + 1 + 1 + 1 + 1) 0; (focus (go_simp; rfl)); intro z; (try clear c_4_0); have c_4_0 := z; clear z; (try (apply ck hb2 (w.heap.size + 1 + 1 + 1 + 1) 1; (focus (go_simp; rfl)); intro z; (try clear c_4_1); have c_4_1 := z; clear z)))))))))))))); (try (have _ : w1.heap.size < w2.heap.size := (by omega); (try (apply fk hb2 (w1.heap.size); (focus (go_simp; rfl)); (focus (intro o; go_simp)); intro z; (try clear f1_0); have f1_0 := z; clear z)); (try (apply ck hb2 (w1.heap.size) 0; (focus (go_simp; rfl)); intro z; (try clear c1_0_0); have c1_0_0 := z; clear z; (try (apply ck hb2 (w1.heap.size) 1; (focus (go_simp; rfl)); intro z; (try clear c1_0_1); have c1_0_1 := z; clear z)))); (try (have _ : w1.heap.size + 1 < w2.heap.size := (by omega); (try (apply fk hb2 (w1.heap.size + 1); (focus (go_simp; rfl)); (focus (intro o; go_simp)); intro z; (try clear f1_1); have f1_1 := z; clear z)); (try (apply ck hb2 (w1.heap.size + 1) 0; (focus (go_simp; rfl)); intro z; (try clear c1_1_0); have c1_1_0 := z; clear z; (try (apply ck hb2 (w1.heap.size + 1) 1; (focus (go_simp; rfl)); intro z; (try clear c1_1_1); have c1_1_1 := z; clear z)))))))); clear hle; (try (apply old_keep (w0 := w) (w := w2); (focus ((repeat (first | (with_reducible exact Up.refl _) | (with_reducible assumption) | (with_reducible refine Up.alloc ?_ _) | (with_reducible refine Up.drew ?_) | ((with_reducible refine Up.set ?_ ?_ _); rotate_left; focus (first | omega | (simp; done) | (simp; omega))) | (with_reducible refine Up.drewN ?_ _) | (with_reducible refine Up.call ?_ (by with_reducible assumption)))))); intro y z; (try clear hUp); (try clear hOld); have hUp := y; have hOld := z; clear y z))))
                        | ((go_at_call 18; (with_reducible refine (Hcl.out _ (Hr.out.up (by (repeat (first | (with_reducible exact Up.refl _) | (with_reducible assumption) | (with_reducible refine Up.alloc ?_ _) | (with_reducible refine Up.drew ?_) | ((with_reducible refine Up.set ?_ ?_ _); rotate_left; focus (first | omega | (simp; done) | (simp; omega))) | (with_reducible refine Up.drewN ?_ _) | (with_reducible refine Up.call ?_ (by with_reducible assumption))))))).mono ?_); rintro e w1 ⟨x1, v1, hx1, rfl, hv1, hb1⟩ <;> (subst hx1; obtain ⟨g1, k1, rfl, gb1, gl1⟩ := World.ownsRow.form hv1 H0.out; have Hv1 := hid hv1; clear hv1)) <;> (have hle := Up.le hb1; (try simp only [World.size_alloc, World.size_setCell, World.size_drew, World.heap_drewN] at hle); (try (have _ : w.heap.size < w1.heap.size := (by omega); (try (apply fk hb1 (w.heap.size); (focus (go_simp; rfl)); (focus (intro o; go_simp)); intro z; (try clear f_0); have f_0 := z; clear z)); (try (apply ck hb1 (w.heap.size) 0; (focus (go_simp; rfl)); intro z; (try clear c_0_0); have c_0_0 := z; clear z; (try (apply ck hb1 (w.heap.size) 1; (focus (go_simp; rfl)); intro z; (try clear c_0_1); have c_0_1 := z; clear z)))); (try (have _ : w.heap.size + 1 < w1.heap.size := (by omega); (try (apply fk hb1 (w.heap.size + 1); (focus (go_simp; rfl)); (focus (intro o; go_simp)); intro z; (try clear f_1); have f_1 := z; clear z)); (try (apply ck hb1 (w.heap.size + 1) 0; (focus (go_simp; rfl)); intro z; (try clear c_1_0); have c_1_0 := z; clear z; (try (apply ck hb1 (w.heap.size + 1) 1; (focus (go_simp; rfl)); intro z; (try clear c_1_1); have c_1_1 := z; clear z)))); (try (have _ : w.heap.size + 1 + 1 < w1.heap.size := (by omega); (try (apply fk hb1 (w.heap.size + 1 + 1); (focus (go_simp; rfl)); (focus (intro o; go_simp)); intro z; (try clear f_2); have f_2 := z; clear z)); (try (apply ck hb1 (w.heap.size + 1 + 1) 0; (focus (go_simp; rfl)); intro z; (try clear c_2_0); have c_2_0 := z; clear z; (try (apply ck hb1 (w.heap.size + 1 + 1) 1; (focus (go_simp; rfl)); intro z; (try clear c_2_1); have c_2_1 := z; clear z)))); (try (have _ : w.heap.size + 1 + 1 + 1 < w1.heap.size := (by omega); (try (apply fk hb1 (w.heap.size + 1 + 1 + 1); (focus (go_simp; rfl)); (focus (intro o; go_simp)); intro z; (try clear f_3); have f_3 := z; clear z)); (try (apply ck hb1 (w.heap.size + 1 + 1 + 1) 0; (focus (go_simp; rfl)); intro z; (try clear c_3_0); have c_3_0 := z; clear z; (try (apply ck hb1 (w.heap.size + 1 + 1 + 1) 1; (focus (go_simp; rfl)); intro z; (try clear c_3_1); have c_3_1 := z; clear z)))); (try (have _ : w.heap.size + 1 + 1 + 1 + 1 < w1.heap.size := (by omega); (try (apply fk hb1 (w.heap.size + 1 + 1 + 1 + 1); (focus (go_simp; rfl)); (focus (intro o; go_simp)); intro z; (try clear f_4); have f_4 := z; clear z)); (try (apply ck hb1 (w.heap.size + 1 + 1 + 1 + 1) 0; (focus (go_simp; rfl)); intro z; (try clear c_4_0); have c_4_0 := z; clear z; (try (apply ck hb1 (w.heap.size + 1 + 1 + 1 + 1) 1; (focus (go_simp; rfl)); intro z; (try clear c_4_1); have c_4_1 := z; clear z)))))))))))))); clear hle; (try (apply old_keep (w0 := w) (w := w1); (focus ((repeat (first | (with_reducible exact Up.refl _) | (with_reducible assumption) | (with_reducible refine Up.alloc ?_ _) | (with_reducible refine Up.drew ?_) | ((with_reducible refine Up.set ?_ ?_ _); rotate_left; focus (first | omega | (simp; done) | (simp; omega))) | (with_reducible refine Up.drewN ?_ _) | (with_reducible refine Up.call ?_ (by with_reducible assumption)))))); intro y z; (try clear hUp); (try clear hOld); have hUp := y; have hOld := z; clear y z))))
                        | ((go_at_call 75; (with_reducible refine (Hwd.out _ (Hr.out.up (by (repeat (first | (with_reducible exact Up.refl _) | (with_reducible assumption) | (with_reducible refine Up.alloc ?_ _) | (with_reducible refine Up.drew ?_) | ((with_reducible refine Up.set ?_ ?_ _); rotate_left; focus (first | omega | (simp; done) | (simp; omega))) | (with_reducible refine Up.drewN ?_ _) | (with_reducible refine Up.call ?_ (by with_reducible assumption))))))).mono ?_); rintro e w3 ⟨x3, hx3, rfl, hb3⟩ <;> (subst hx3)) <;> (have hle := Up.le hb3; (try simp only [World.size_alloc, World.size_setCell, World.size_drew, World.heap_drewN] at hle); (try (have _ : w.heap.size < w3.heap.size := (by omega); (try (apply fk hb3 (w.heap.size); (focus (go_simp; rfl)); (focus (intro o; go_simp)); intro z; (try clear f_0); have f_0 := z; clear z)); (try (apply ck hb3 (w.heap.size) 0; (focus (go_simp; rfl)); intro z; (try clear c_0_0); have c_0_0 := z; clear z; (try (apply ck hb3 (w.heap.size) 1; (focus (go_simp; rfl)); intro z; (try clear c_0_1); have c_0_1 := z; clear z)))); (try (have _ : w.heap.size + 1 < w3.heap.size := (by omega); (try (apply fk hb3 (w.heap.size + 1); (focus (go_simp; rfl)); (focus (intro o; go_simp)); intro z; (try clear f_1); have f_1 := z; clear z)); (try (apply ck hb3 (w.heap.size + 1) 0; (focus (go_simp; rfl)); intro z; (try clear c_1_0); have c_1_0 := z; clear z; (try (apply ck hb3 (w.heap.size + 1) 1; (focus (go_simp; rfl)); intro z; (try clear c_1_1); have c_1_1 := z; clear z)))); (try (have _ : w.heap.size + 1 + 1 < w3.heap.size := (by omega); (try (apply fk hb3 (w.heap.size + 1 + 1); (focus (go_simp; rfl)); (focus (intro o; go_simp)); intro z; (try clear f_2); have f_2 := z; clear z)); (try (apply ck hb3 (w.heap.size + 1 + 1) 0; (focus (go_simp; rfl)); intro z; (try clear c_2_0); have c_2_0 := z; clear z; (try (apply ck hb3 (w.heap.size + 1 + 1) 1; (focus (go_simp; rfl)); intro z; (try clear c_2_1); have c_2_1 := z; clear z)))); (try (have _ : w.heap.size + 1 + 1 + 1 < w3.heap.size := (by omega); (try (apply fk hb3 (w.heap.size + 1 + 1 + 1); (focus (go_simp; rfl)); (focus (intro o; go_simp)); intro z; (try clear f_3); have f_3 := z; clear z)); (try (apply ck hb3 (w.heap.size + 1 + 1 + 1) 0; (focus (go_simp; rfl)); intro z; (try clear c_3_0); have c_3_0 := z; clear z; (try (apply ck hb3 (w.heap.size + 1 + 1 + 1) 1; (focus (go_simp; rfl)); intro z; (try clear c_3_1); have c_3_1 := z; clear z)))); (try (have _ : w.heap.size + 1 + 1 + 1 + 1 < w3.heap.size := (by omega); (try (apply fk hb3 (w.heap.size + 1 + 1 + 1 + 1); (focus (go_simp; rfl)); (focus (intro o; go_simp)); intro z; (try clear f_4); have f_4 := z; clear z)); (try (apply ck hb3 (w.heap.size + 1 + 1 + 1 + 1) 0; (focus (go_simp; rfl)); intro z; (try clear c_4_0); have c_4_0 := z; clear z; (try (apply ck hb3 (w.heap.size + 1 + 1 + 1 + 1) 1; (focus (go_simp; rfl)); intro z; (try clear c_4_1); have c_4_1 := z; clear z)))))))))))))); (try (have _ : w1.heap.size < w3.heap.size := (by omega); (try (apply fk hb3 (w1.heap.size); (focus (go_simp; rfl)); (focus (intro o; go_simp)); intro z; (try clear f1_0); have f1_0 := z; clear z)); (try (apply ck hb3 (w1.heap.size) 0; (focus (go_simp; rfl)); intro z; (try clear c1_0_0); have c1_0_0 := z; clear z; (try (apply ck hb3 (w1.heap.size) 1; (focus (go_simp; rfl)); intro z; (try clear c1_0_1); have c1_0_1 := z; clear z)))); (try (have _ : w1.heap.size + 1 < w3.heap.size := (by omega); (try (apply fk hb3 (w1.heap.size + 1); (focus (go_simp; rfl)); (focus (intro o; go_simp)); intro z; (try clear f1_1); have f1_1 := z; clear z)); (try (apply ck hb3 (w1.heap.size + 1) 0; (focus (go_simp; rfl)); intro z; (try clear c1_1_0); have c1_1_0 := z; clear z; (try (apply ck hb3 (w1.heap.size + 1) 1; (focus (go_simp; rfl)); intro z; (try clear c1_1_1); have c1_1_1 := z; clear z)))))))); (try (have _ : w2.heap.size < w3.heap.size := (by omega); (try (apply fk hb3 (w2.heap.size); (focus (go_simp; rfl)); (focus (intro o; go_simp)); intro z; (try clear f2_0); have f2_0 := z; clear z)); (try (apply ck hb3 (w2.heap.size) 0; (focus (go_simp; rfl)); intro z; (try clear c2_0_0); have c2_0_0 := z; clear z; (try (apply ck hb3 (w2.heap.size) 1; (focus (go_simp; rfl)); intro z; (try clear c2_0_1); have c2_0_1 := z; clear z)))); (try (have _ : w2.heap.size + 1 < w3.heap.size := (by omega); (try (apply fk hb3 (w2.heap.size + 1); (focus (go_simp; rfl)); (focus (intro o; go_simp)); intro z; (try clear f2_1); have f2_1 := z; clear z)); (try (apply ck hb3 (w2.heap.size + 1) 0; (focus (go_simp; rfl)); intro z; (try clear c2_1_0); have c2_1_0 := z; clear z; (try (apply ck hb3 (w2.heap.size + 1) 1; (focus (go_simp; rfl)); intro z; (try clear c2_1_1); have c2_1_1 := z; clear z)))))))); clear hle; (try (apply old_keep (w0 := w) (w := w3); (focus ((repeat (first | (with_reducible exact Up.refl _) | (with_reducible assumption) | (with_reducible refine Up.alloc ?_ _) | (with_reducible refine Up.drew ?_) | ((with_reducible refine Up.set ?_ ?_ _); rotate_left; focus (first | omega | (simp; done) | (simp; omega))) | (with_reducible refine Up.drewN ?_ _) | (with_reducible refine Up.call ?_ (by with_reducible assumption)))))); intro y z; (try clear hUp); (try clear hOld); have hUp := y; have hOld := z; clear y z))))
                        | ((go_at_call 48; (with_reducible refine (Hhalf.out _).mono ?_); rintro e w4 ⟨x4, hx4, rfl, hb4⟩ <;> (have u14 := (hb2.call hb3).call hb4; have u24 := hb3.call hb4; have hO1 := Hv1.out.up u14; have hO2 := Hv2.out.up u24; have y1 := World.ownsRow.cellAt hO1 (i * 2 + 1) (by have := Hil.out; omega); rw [Hsp.out.2] at y1; have y2 := World.ownsRow.cellAt hO2 (i * 2) (by have := Hil.out; omega); rw [Hsp.out.1] at y2; have z1 := World.ownsRow.frozenAt hO1; have z2 := World.ownsRow.frozenAt hO2; have m1 := u14.le; have m2 := u24.le; have m3 := hb1.le; have g1g2 : g1 < g2 := (by omega); have _ : g1 < w4.heap.size := (by omega); have _ : g2 < w4.heap.size := (by omega); have HO1 := hid hO1; have HO2 := hid hO2; clear hO1 hO2 u14 u24)) <;> (have hle := Up.le hb4; (try simp only [World.size_alloc, World.size_setCell, World.size_drew, World.heap_drewN] at hle); (try (have _ : w.heap.size < w4.heap.size := (by omega); (try (apply fk hb4 (w.heap.size); (focus (go_simp; rfl)); (focus (intro o; go_simp)); intro z; (try clear f_0); have f_0 := z; clear z)); (try (apply ck hb4 (w.heap.size) 0; (focus (go_simp; rfl)); intro z; (try clear c_0_0); have c_0_0 := z; clear z; (try (apply ck hb4 (w.heap.size) 1; (focus (go_simp; rfl)); intro z; (try clear c_0_1); have c_0_1 := z; clear z)))); (try (have _ : w.heap.size + 1 < w4.heap.size := (by omega); (try (apply fk hb4 (w.heap.size + 1); (focus (go_simp; rfl)); (focus (intro o; go_simp)); intro z; (try clear f_1); have f_1 := z; clear z)); (try (apply ck hb4 (w.heap.size + 1) 0; (focus (go_simp; rfl)); intro z; (try clear c_1_0); have c_1_0 := z; clear z; (try (apply ck hb4 (w.heap.size + 1) 1; (focus (go_simp; rfl)); intro z; (try clear c_1_1); have c_1_1 := z; clear z)))); (try (have _ : w.heap.size + 1 + 1 < w4.heap.size := (by omega); (try (apply fk hb4 (w.heap.size + 1 + 1); (focus (go_simp; rfl)); (focus (intro o; go_simp)); intro z; (try clear f_2); have f_2 := z; clear z)); (try (apply ck hb4 (w.heap.size + 1 + 1) 0; (focus (go_simp; rfl)); intro z; (try clear c_2_0); have c_2_0 := z; clear z; (try (apply ck hb4 (w.heap.size + 1 + 1) 1; (focus (go_simp; rfl)); intro z; (try clear c_2_1); have c_2_1 := z; clear z)))); (try (have _ : w.heap.size + 1 + 1 + 1 < w4.heap.size := (by omega); (try (apply fk hb4 (w.heap.size + 1 + 1 + 1); (focus (go_simp; rfl)); (focus (intro o; go_simp)); intro z; (try clear f_3); have f_3 := z; clear z)); (try (apply ck hb4 (w.heap.size + 1 + 1 + 1) 0; (focus (go_simp; rfl)); intro z; (try clear c_3_0); have c_3_0 := z; clear z; (try (apply ck hb4 (w.heap.size + 1 + 1 + 1) 1; (focus (go_simp; rfl)); intro z; (try clear c_3_1); have c_3_1 := z; clear z)))); (try (have _ : w.heap.size + 1 + 1 + 1 + 1 < w4.heap.size := (by omega); (try (apply fk hb4 (w.heap.size + 1 + 1 + 1 + 1); (focus (go_simp; rfl)); (focus (intro o; go_simp)); intro z; (try clear f_4); have f_4 := z; clear z)); (try (apply ck hb4 (w.heap.size + 1 + 1 + 1 + 1) 0; (focus (go_simp; rfl)); intro z; (try clear c_4_0); have c_4_0 := z; clear z; (try (apply ck hb4 (w.heap.size + 1 + 1 + 1 + 1) 1; (focus (go_simp; rfl)); intro z; (try clear c_4_1); have c_4_1 := z; clear z)))))))))))))); (try (have _ : w1.heap.size < w4.heap.size := (by omega); (try (apply fk hb4 (w1.heap.size); (focus (go_simp; rfl)); (focus (intro o; go_simp)); intro z; (try clear f1_0); have f1_0 := z; clear z)); (try (apply ck hb4 (w1.heap.size) 0; (focus (go_simp; rfl)); intro z; (try clear c1_0_0); have c1_0_0 := z; clear z; (try (apply ck hb4 (w1.heap.size) 1; (focus (go_simp; rfl)); intro z; (try clear c1_0_1); have c1_0_1 := z; clear z)))); (try (have _ : w1.heap.size + 1 < w4.heap.size := (by omega); (try (apply fk hb4 (w1.heap.size + 1); (focus (go_simp; rfl)); (focus (intro o; go_simp)); intro z; (try clear f1_1); have f1_1 := z; clear z)); (try (apply ck hb4 (w1.heap.size + 1) 0; (focus (go_simp; rfl)); intro z; (try clear c1_1_0); have c1_1_0 := z; clear z; (try (apply ck hb4 (w1.heap.size + 1) 1; (focus (go_simp; rfl)); intro z; (try clear c1_1_1); have c1_1_1 := z; clear z)))))))); (try (have _ : w2.heap.size < w4.heap.size := (by omega); (try (apply fk hb4 (w2.heap.size); (focus (go_simp; rfl)); (focus (intro o; go_simp)); intro z; (try clear f2_0); have f2_0 := z; clear z)); (try (apply ck hb4 (w2.heap.size) 0; (focus (go_simp; rfl)); intro z; (try clear c2_0_0); have c2_0_0 := z; clear z; (try (apply ck hb4 (w2.heap.size) 1; (focus (go_simp; rfl)); intro z; (try clear c2_0_1); have c2_0_1 := z; clear z)))); (try (have _ : w2.heap.size + 1 < w4.heap.size := (by omega); (try (apply fk hb4 (w2.heap.size + 1); (focus (go_simp; rfl)); (focus (intro o; go_simp)); intro z; (try clear f2_1); have f2_1 := z; clear z)); (try (apply ck hb4 (w2.heap.size + 1) 0; (focus (go_simp; rfl)); intro z; (try clear c2_1_0); have c2_1_0 := z; clear z; (try (apply ck hb4 (w2.heap.size + 1) 1; (focus (go_simp; rfl)); intro z; (try clear c2_1_1); have c2_1_1 := z; clear z)))))))); (try (have _ : w3.heap.size < w4.heap.size := (by omega); (try (apply fk hb4 (w3.heap.size); (focus (go_simp; rfl)); (focus (intro o; go_simp)); intro z; (try clear f3_0); have f3_0 := z; clear z)); (try (apply ck hb4 (w3.heap.size) 0; (focus (go_simp; rfl)); intro z; (try clear c3_0_0); have c3_0_0 := z; clear z; (try (apply ck hb4 (w3.heap.size) 1; (focus (go_simp; rfl)); intro z; (try clear c3_0_1); have c3_0_1 := z; clear z)))); (try (have _ : w3.heap.size + 1 < w4.heap.size := (by omega); (try (apply fk hb4 (w3.heap.size + 1); (focus (go_simp; rfl)); (focus (intro o; go_simp)); intro z; (try clear f3_1); have f3_1 := z; clear z)); (try (apply ck hb4 (w3.heap.size + 1) 0; (focus (go_simp; rfl)); intro z; (try clear c3_1_0); have c3_1_0 := z; clear z; (try (apply ck hb4 (w3.heap.size + 1) 1; (focus (go_simp; rfl)); intro z; (try clear c3_1_1); have c3_1_1 := z; clear z)))))))); clear hle; (try (apply old_keep (w0 := w) (w := w4); (focus ((repeat (first | (with_reducible exact Up.refl _) | (with_reducible assumption) | (with_reducible refine Up.alloc ?_ _) | (with_reducible refine Up.drew ?_) | ((with_reducible refine Up.set ?_ ?_ _); rotate_left; focus (first | omega | (simp; done) | (simp; omega))) | (with_reducible refine Up.drewN ?_ _) | (with_reducible refine Up.call ?_ (by with_reducible assumption)))))); intro y z; (try clear hUp); (try clear hOld); have hUp := y; have hOld := z; clear y z)))))
  go_ret2
  have hx4' : halfF s = x4 := hx4
  have hE2 := HE.out
  rw [hx4'] at hE2
  refine RetR.mk (l.set i ⟨s.lo, x4⟩, l.set i ⟨x4, s.hi⟩) ?_ hE2 (rel := own2 w.heap.size) ⟨_, _, rfl, ?_, ?_⟩
  · (repeat (first | (with_reducible exact Up.refl _) | (with_reducible assumption) | (with_reducible refine Up.alloc ?_ _) | (with_reducible refine Up.drew ?_) | ((with_reducible refine Up.set ?_ ?_ _); rotate_left; focus (first | omega | (simp; done) | (simp; omega))) | (with_reducible refine Up.drewN ?_ _) | (with_reducible refine Up.call ?_ (by with_reducible assumption))))
  · have q := (World.ownsRow.stored HO1.out (i * 2 + 1) (.int .i64 x4)).1
    rw [(Hset.out x4).2] at q
    have q2 : OwnS (w4.setCell ⟨g1, i * 2 + 1, none⟩ (.int .i64 x4)) w.heap.size (.slice (some ⟨g1, 0, none⟩) l.length k1) (l.set i ⟨s.lo, x4⟩) := by unfold OwnS; rw [List.length_set]; exact q
    exact q2.set (a := ⟨g2, i * 2, none⟩) (fun e => by injection e with e; simp at e; omega) _
  · have q0 := OwnS.set HO2.out (a := ⟨g1, i * 2 + 1, none⟩) (fun e => by injection e with e; simp at e; omega) (.int .i64 x4)
    have q := (World.ownsRow.stored q0 (i * 2) (.int .i64 x4)).1
    rw [(Hset.out x4).1] at q
    have q2 : OwnS ((w4.setCell ⟨g1, i * 2 + 1, none⟩ (.int .i64 x4)).setCell ⟨g2, i * 2, none⟩ (.int .i64 x4)) w1.heap.size (.slice (some ⟨g2, 0, none⟩) l.length k2) (l.set i ⟨x4, s.hi⟩) := by unfold OwnS; rw [List.length_set]; exact q
    exact World.ownsRow.mono q2 (by omega)
end Go.Proofs.Ytknkpjfoaijaoaa
