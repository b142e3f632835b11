/- Sessions, the reference: a text cut at a byte. Sessions, the reference: the numbers of a word, a span, their texts, and an error's name. Sessions, the reference: the numbers of a word. Sessions, the reference: a span that is read. -/
import Derived.Test.YtmjcnpolnknkkaaGreatDoorZ2
import Derived.Test.YtmjcnpolnknkkaaGreatDoorZ3
import Derived.Test.YtmjcnpolnknkkaaGreatDoorZ6
import Derived.Test.YtmjcnpolnknkkaaGreatDoorZD
import Derived.BigRegion
import Derived.RegionTactic
import Derived.BigQuiet
import Derived.Deep.QuietTactic
set_option linter.unusedVariables false
set_option linter.unusedSimpArgs false
namespace Go.Proofs.YtmjcnpolnknkkaaGreatDoor
open Go.RowKit

/-- A row of words that a call hands back. -/
def wdR (w : World) (l : List (List UInt8)) (v : Value) : Prop := ∃ g c : Nat, v = .slice (some ⟨g, 0, none⟩) l.length c ∧ g < w.heap.size ∧ l.length ≤ c ∧ ∀ j, j < l.length → w.cell? ⟨g, j, none⟩ = some (.string ⟨(l[j]?.getD []).toArray⟩)
theorem wdR.up {w w' : World} {l : List (List UInt8)} {v : Value} (h : wdR w l v) (hu : Up w w') : wdR w' l v := by
  obtain ⟨g, c, hv, hg, hc, h⟩ := h
  exact ⟨g, c, hv, Nat.lt_of_lt_of_le hg hu.le, hc, fun j hj => ((bcell hu).1 _ _ hg).trans (h j hj)⟩
theorem wdR_own {w : World} {base n : Nat} {v : Value} {l : List (List UInt8)} (h : w.ownsRow base 9 1 v n (l.map strV)) (hn : l.length = n) (h0 : 0 < n) : wdR w l v := by
  obtain ⟨g, c, hv, hg, hc, hx⟩ := own_strs h hn h0
  subst hn
  refine ⟨g, c, hv, hg, hc, fun j hj => ?_⟩
  have := hx j ⟨(l[j]?.getD []).toArray⟩ (by rw [List.getElem?_map, List.getElem?_eq_getElem hj]; rfl)
  rw [Nat.zero_add] at this
  exact this
def CutS (c : UInt8) (s : List UInt8) (L : List (List UInt8)) (f k : Nat) : Prop := splitF c s = L ++ splitF c (s.drop f) ∧ Clean c s f k ∧ L.length ≤ k
theorem CutS.start (c : UInt8) (s : List UInt8) : CutS c s [] 0 0 := ⟨rfl, Clean.start _ _ (Nat.zero_le _), Nat.le_refl _⟩
theorem CutS.hit {c : UInt8} {s : List UInt8} {L : List (List UInt8)} {f k : Nat} (h : CutS c s L f k) (hk : k < s.length) (hx : s[k]? = some c) : CutS c s (L ++ [(s.drop f).take (k - f)]) (k + 1) (k + 1) := by
  obtain ⟨h1, h2, h3⟩ := h
  refine ⟨?_, Clean.start _ _ hk, by simp; omega⟩
  rw [h1, cut_hit h2 hk hx]
  simp
theorem CutS.miss {c : UInt8} {s : List UInt8} {L : List (List UInt8)} {f k : Nat} (h : CutS c s L f k) (hk : k < s.length) (hx : s[k]? ≠ some c) : CutS c s L f (k + 1) :=
  ⟨h.1, h.2.1.next hk hx, by have := h.2.2; omega⟩
theorem CutS.fin {c : UInt8} {s : List UInt8} {L : List (List UInt8)} {f : Nat} (h : CutS c s L f s.length) : splitF c s = L ++ [s.drop f] := by
  rw [h.1, cut_end h.2.1]
set_option maxRecDepth 100000 in
set_option maxHeartbeats 8000000 in
theorem rcut_any (c : UInt8) (s : List UInt8) (w : World) (hs : s.length ≤ 1000000) : Calls Tryz.prog 20 #[.string ⟨s.toArray⟩, .int .u8 (c.toNat : Int)] w (RetR wdR (splitF c s) w) := by
  have hsi : (s.length : Int) ≤ 1000000 := by omega
  obtain ⟨i0, hi0, hz0, hz1, hz2⟩ := info_parts Tryz.infoStr
  obtain ⟨cn, hcn⟩ : ∃ n, c.toNat = n := ⟨_, rfl⟩
  rw [hcn]
  have HCN := hid hcn
  clear hcn
  go_enter Tryz.func20, Tryz.ntmps20
  go_wp2
  go_loopw [5, 6, 7] (fun v f i wr => ∃ (f' k : Nat) (L : List (List UInt8)), f = .int .i64 (f' : Int) ∧ i = .int .i64 (k : Int) ∧ k ≤ s.length ∧ f' ≤ k ∧ Hid (CutS c s L f' k) ∧ wr.ownsRow w.heap.size 9 1 v L.length (L.map strV) ∧ Up w wr) (fun _ _ i _ => s.length - (intOf i).toNat)
  case atStart => exact ⟨0, 0, [], rfl, rfl, Nat.zero_le _, Nat.le_refl _, CutS.start _ _, World.ownsRow_nil _ _ _ _, Up.refl _⟩
  case round =>
    obtain ⟨f, k, L, rfl, rfl, hk, hfk, H, hown, hU⟩ := hrel
    have HO := hid hown
    have hLk := H.out.2.2
    have hk0 : (0 : Int) ≤ (k : Int) := by omega
    have hf0 : (0 : Int) ≤ (f : Int) := by omega
    have hfk' : (f : Int) ≤ (k : Int) := by omega
    clear hown
    by_cases hlt : k < s.length
    · have hk' : (k : Int) < (s.length : Int) := by omega
      have hk2 : (k : Int) ≤ (s.length : Int) := by omega
      obtain ⟨x, hx⟩ : ∃ x, s[k]? = some x := ⟨_, List.getElem?_eq_getElem hlt⟩
      have hx3 : ∀ h, ((⟨s.toArray⟩ : ByteArray)[k]'h) = x := fun h => by
        obtain ⟨h1, h2⟩ := List.getElem?_eq_some_iff.1 hx
        exact h2
      have hx4 : ∀ h, ((⟨s.toArray⟩ : ByteArray)[k]'h).toNat = x.toNat := fun h => congrArg UInt8.toNat (hx3 h)
      obtain ⟨xn, hxn⟩ : ∃ n, x.toNat = n := ⟨_, rfl⟩
      rw [hxn] at hx4
      by_cases hc : x = c
      · have hxc : xn = cn := by rw [← hxn, hc, HCN.out]
        rw [hxc] at hx4
        have HH := hid (H.out.hit hlt (by rw [hx, hc]))
        have HX := hid (show (⟨s.toArray⟩ : ByteArray).extract f k = ⟨((s.drop f).take (k - f)).toArray⟩ from ba_ext2 s f k)
        have HJ := hid hlt
        clear hx hx3 hxn hc hxc
        go_wp2_with (first
                        | (at_builtin; refine wpList_append_own_at _ rfl (.tmp 19) (.tmp 24) _ rfl w.heap.size 9 i0 (.string ByteArray.empty) 1 16 Tryz.underlying42 hi0 hz0 hz1 hz2 rfl (by decide) _ _ _ rfl (HO.out.alloc _) ⟨wr.heap.size, 0, none⟩ 1 1 [.string ((⟨s.toArray⟩ : ByteArray).extract f k)] rfl rfl (cell_one_new _ _ _) (by simp [Value.oneCell']) (by unfold maxLen; omega) (by omega) (by have := hU.le; simp; omega) ?_; intro v8 w3 own8 g8 _ at8))
        go_roundw
        case rel =>
          refine ⟨k + 1, k + 1, L ++ [(s.drop f).take (k - f)], by go_num, by go_num, by have := HJ.out; omega, Nat.le_refl _, HH.out, ?_, ?_⟩
          · rw [HX.out] at own8
            rw [List.map_append]
            simpa [strV] using own8
          · exact Below.grown (hU.alloc _) g8 (hU.alloc _).le (fun j hj => (HO.out.lt j hj).1)
        case measure => have := HJ.out; simp [intOf]; omega
      · have hxc : ¬ xn = cn := fun e => hc (UInt8.toNat_inj.1 (by rw [hxn, e, HCN.out]))
        have hxc2 : ((xn : Int) == (cn : Int)) = false := beq_eq_false_iff_ne.2 (by omega)
        have HH := hid (H.out.miss hlt (by rw [hx]; intro e; injection e with e; exact hc e))
        have HJ := hid hlt
        clear hx hx3 hxn hc
        go_wp2
        go_roundw
        case rel => exact ⟨f, k + 1, L, rfl, by go_num, by have := HJ.out; omega, by omega, HH.out, HO.out, hU⟩
        case measure => have := HJ.out; simp [intOf]; omega
    · obtain rfl : k = s.length := by omega
      have hkl : ¬ (s.length : Int) < (s.length : Int) := by omega
      have hkd : decide ((s.length : Int) < (s.length : Int)) = false := decide_eq_false hkl
      have HF := hid H.out.fin
      have HX := hid (show (⟨s.toArray⟩ : ByteArray).extract f s.length = ⟨(s.drop f).toArray⟩ by rw [ba_ext2, List.take_of_length_le (by rw [List.length_drop]; omega)])
      go_wp2_with (first
                        | (at_builtin; refine wpList_append_own_at _ rfl (.tmp 28) (.tmp 32) _ rfl w.heap.size 9 i0 (.string ByteArray.empty) 1 16 Tryz.underlying42 hi0 hz0 hz1 hz2 rfl (by decide) _ _ _ rfl (HO.out.alloc _) ⟨wr.heap.size, 0, none⟩ 1 1 [.string ((⟨s.toArray⟩ : ByteArray).extract f s.length)] rfl rfl (cell_one_new _ _ _) (by simp [Value.oneCell']) (by unfold maxLen; omega) (by omega) (by have := hU.le; simp; omega) ?_; intro v8 w3 own8 g8 _ at8))
      go_ret
      have hU3 : Up w w3 := Below.grown (hU.alloc _) g8 (hU.alloc _).le (fun j hj => (HO.out.lt j hj).1)
      refine RetR.mk (L ++ [s.drop f]) hU3 HF.out (rel := wdR) (wdR_own (base := w.heap.size) (n := L.length + 1) (l := L ++ [s.drop f]) (by
        rw [HX.out] at own8
        rw [List.map_append]
        simpa [strV] using own8) (by simp) (by omega))
end Go.Proofs.YtmjcnpolnknkkaaGreatDoor

set_option linter.unusedVariables false
set_option linter.unusedSimpArgs false
namespace Go.Proofs.YtmjcnpolnknkkaaGreatDoor
open Go.RowKit

set_option maxRecDepth 100000 in
set_option maxHeartbeats 2000000 in
theorem rname_any (n : Nat) (h : n < 9) (w : World) : Calls Tryz.prog 60 #[.int .i64 (n : Int)] w (RetX strV (nameF n) w) := by
  match n, h with
  | 0, _ | 1, _ | 2, _ | 3, _ | 4, _ | 5, _ | 6, _ | 7, _ | 8, _ =>
    go_enter Tryz.func60, Tryz.ntmps60
    go_wp2
    go_ret
    exact RetX.same (by (repeat (first | (with_reducible exact Up.refl _) | (with_reducible assumption) | (with_reducible refine Up.alloc ?_ _) | (with_reducible refine Up.drew ?_) | ((with_reducible refine Up.set ?_ ?_ _); rotate_left; focus (first | omega | (simp; done) | (simp; omega))) | (with_reducible refine Up.drewN ?_ _) | (with_reducible refine Up.call ?_ (by with_reducible assumption))))) rfl
set_option maxRecDepth 100000 in
set_option maxHeartbeats 2000000 in
theorem rstext_any (p : Sp) (w : World) (hp : Wide p) : Calls Tryz.prog 22 #[.agg #[.int .i64 p.lo, .int .i64 p.hi]] w (RetX strV (stextF p) w) := by
  have H1 := hid hp.1; have H2 := hid hp.2
  have q1 := text_len30 hp.1; have q2 := text_len30 hp.2
  have q3 : ¬ 9223372036854775807 < (textF p.lo).length + 1 := by omega
  have q4 : ¬ 9223372036854775807 < (textF p.lo).length + 1 + (textF p.hi).length := by omega
  clear q1 q2
  obtain ⟨lo, hi⟩ := p
  dsimp only at *
  clear hp
  go_enter Tryz.func22, Tryz.ntmps22
  go_wp2_with (first
                        | ((go_at_call 15; (with_reducible refine (rtext_any lo _ H1.out).mono ?_); rintro e w1 ⟨x1, rfl, rfl, hb1⟩) <;> (have hle := Up.le hb1; (try simp only [World.size_alloc, World.size_setCell, World.size_drew, World.heap_drewN] at hle); (try (have _ : w.heap.size < w1.heap.size := (by omega); (first | ((apply fk hb1 (w.heap.size); (focus (go_simp; rfl)); (focus (intro o; go_simp)); intro z; (try clear f_0); have f_0 := z; clear z)) | skip); (try (apply fko hb1 (w.heap.size) 0; (focus (go_simp; rfl)); (focus (go_simp; done)); intro z; (try clear g_0_0); have g_0_0 := z; clear z)); (try (apply fko hb1 (w.heap.size) 1; (focus (go_simp; rfl)); (focus (go_simp; done)); intro z; (try clear g_0_1); have g_0_1 := z; clear z)); (try (apply ck hb1 (w.heap.size) 0; (focus (go_simp; rfl)); intro z; (try clear c_0_0); have c_0_0 := z; clear z)); (try (apply ck hb1 (w.heap.size) 1; (focus (go_simp; rfl)); intro z; (try clear c_0_1); have c_0_1 := z; clear z)))); clear hle))
                        | ((go_at_call 15; (with_reducible refine (rtext_any hi _ H2.out).mono ?_); rintro e w2 ⟨x2, rfl, rfl, hb2⟩) <;> (have hle := Up.le hb2; (try simp only [World.size_alloc, World.size_setCell, World.size_drew, World.heap_drewN] at hle); (try (have _ : w.heap.size < w2.heap.size := (by omega); (first | ((apply fk hb2 (w.heap.size); (focus (go_simp; rfl)); (focus (intro o; go_simp)); intro z; (try clear f_0); have f_0 := z; clear z)) | skip); (try (apply fko hb2 (w.heap.size) 0; (focus (go_simp; rfl)); (focus (go_simp; done)); intro z; (try clear g_0_0); have g_0_0 := z; clear z)); (try (apply fko hb2 (w.heap.size) 1; (focus (go_simp; rfl)); (focus (go_simp; done)); intro z; (try clear g_0_1); have g_0_1 := z; clear z)); (try (apply ck hb2 (w.heap.size) 0; (focus (go_simp; rfl)); intro z; (try clear c_0_0); have c_0_0 := z; clear z)); (try (apply ck hb2 (w.heap.size) 1; (focus (go_simp; rfl)); intro z; (try clear c_0_1); have c_0_1 := z; clear z)))); clear hle)))
  go_ret
  refine RetX.same (by (repeat (first | (with_reducible exact Up.refl _) | (with_reducible assumption) | (with_reducible refine Up.alloc ?_ _) | (with_reducible refine Up.drew ?_) | ((with_reducible refine Up.set ?_ ?_ _); rotate_left; focus (first | omega | (simp; done) | (simp; omega))) | (with_reducible refine Up.drewN ?_ _) | (with_reducible refine Up.call ?_ (by with_reducible assumption))))) (congrArg Value.string ?_)
  apply ByteArray.ext
  simp [stextF]
/-- A span's text, or an error's name. -/
def tellF (p : Sp) : Option Nat → List UInt8
  | none => stextF p
  | some n => nameF n
set_option maxRecDepth 100000 in
set_option maxHeartbeats 2000000 in
theorem rtold_any (p : Sp) (E : Option Nat) (w : World) (hp : E = none → Wide p) (hE : ∀ n, E = some n → 0 < n ∧ n < 9) : Calls Tryz.prog 55 #[.agg #[.int .i64 p.lo, .int .i64 p.hi], .int .i64 (numO E)] w (RetX strV (tellF p E) w) := by
  cases E with
  | none =>
    have HP := hid (hp rfl)
    clear hp hE
    obtain ⟨lo, hi⟩ := p
    show Calls Tryz.prog 55 #[.agg #[.int .i64 lo, .int .i64 hi], .int .i64 0] w _
    go_enter Tryz.func55, Tryz.ntmps55
    go_wp2_with (first
                        | ((go_at_call 22; (with_reducible refine (rstext_any ⟨lo, hi⟩ _ HP.out).mono ?_); rintro e w1 ⟨x1, rfl, rfl, hb1⟩) <;> (have hle := Up.le hb1; (try simp only [World.size_alloc, World.size_setCell, World.size_drew, World.heap_drewN] at hle); (try (have _ : w.heap.size < w1.heap.size := (by omega); (first | ((apply fk hb1 (w.heap.size); (focus (go_simp; rfl)); (focus (intro o; go_simp)); intro z; (try clear f_0); have f_0 := z; clear z)) | skip); (try (apply fko hb1 (w.heap.size) 0; (focus (go_simp; rfl)); (focus (go_simp; done)); intro z; (try clear g_0_0); have g_0_0 := z; clear z)); (try (apply fko hb1 (w.heap.size) 1; (focus (go_simp; rfl)); (focus (go_simp; done)); intro z; (try clear g_0_1); have g_0_1 := z; clear z)); (try (apply ck hb1 (w.heap.size) 0; (focus (go_simp; rfl)); intro z; (try clear c_0_0); have c_0_0 := z; clear z)); (try (apply ck hb1 (w.heap.size) 1; (focus (go_simp; rfl)); intro z; (try clear c_0_1); have c_0_1 := z; clear z)))); clear hle)))
    go_ret
    exact RetX.same (by (repeat (first | (with_reducible exact Up.refl _) | (with_reducible assumption) | (with_reducible refine Up.alloc ?_ _) | (with_reducible refine Up.drew ?_) | ((with_reducible refine Up.set ?_ ?_ _); rotate_left; focus (first | omega | (simp; done) | (simp; omega))) | (with_reducible refine Up.drewN ?_ _) | (with_reducible refine Up.call ?_ (by with_reducible assumption))))) rfl
  | some n =>
    obtain ⟨h1, h2⟩ := hE n rfl
    have HN := hid h2
    have hz : ((n : Int) == 0) = false := beq_eq_false_iff_ne.2 (by omega)
    have hz2 : ((n : Int) != 0) = true := by simp; omega
    clear hp hE h2
    obtain ⟨lo, hi⟩ := p
    show Calls Tryz.prog 55 #[.agg #[.int .i64 lo, .int .i64 hi], .int .i64 (n : Int)] w _
    go_enter Tryz.func55, Tryz.ntmps55
    go_wp2_with (first
                        | ((go_at_call 60; (with_reducible refine (rname_any n HN.out _).mono ?_); rintro e w1 ⟨x1, rfl, rfl, hb1⟩) <;> (have hle := Up.le hb1; (try simp only [World.size_alloc, World.size_setCell, World.size_drew, World.heap_drewN] at hle); (try (have _ : w.heap.size < w1.heap.size := (by omega); (first | ((apply fk hb1 (w.heap.size); (focus (go_simp; rfl)); (focus (intro o; go_simp)); intro z; (try clear f_0); have f_0 := z; clear z)) | skip); (try (apply fko hb1 (w.heap.size) 0; (focus (go_simp; rfl)); (focus (go_simp; done)); intro z; (try clear g_0_0); have g_0_0 := z; clear z)); (try (apply fko hb1 (w.heap.size) 1; (focus (go_simp; rfl)); (focus (go_simp; done)); intro z; (try clear g_0_1); have g_0_1 := z; clear z)); (try (apply ck hb1 (w.heap.size) 0; (focus (go_simp; rfl)); intro z; (try clear c_0_0); have c_0_0 := z; clear z)); (try (apply ck hb1 (w.heap.size) 1; (focus (go_simp; rfl)); intro z; (try clear c_0_1); have c_0_1 := z; clear z)))); clear hle)))
    go_ret
    exact RetX.same (by (repeat (first | (with_reducible exact Up.refl _) | (with_reducible assumption) | (with_reducible refine Up.alloc ?_ _) | (with_reducible refine Up.drew ?_) | ((with_reducible refine Up.set ?_ ?_ _); rotate_left; focus (first | omega | (simp; done) | (simp; omega))) | (with_reducible refine Up.drewN ?_ _) | (with_reducible refine Up.call ?_ (by with_reducible assumption))))) rfl
end Go.Proofs.YtmjcnpolnknkkaaGreatDoor

set_option linter.unusedVariables false
set_option linter.unusedSimpArgs false
namespace Go.Proofs.YtmjcnpolnknkkaaGreatDoor
open Go.RowKit

theorem parse_err {s : List UInt8} {e : Nat} (h : parseF s = .error e) : ((e : Int) != 0) = true := by
  unfold parseF at h
  split at h
  · injection h with h; subst h; rfl
  · split at h
    · cases h
    · injection h with h; subst h; rfl
/-- Numbers, and whether they are some. -/
def rnumR (w : World) : Option (List Int) → Value → Prop
  | none, v => v = .tuple #[.slice none 0 0, .bool false]
  | some l, v => ∃ A c, v = .tuple #[.slice A l.length c, .bool true] ∧ RdI w A l ∧ l.length ≤ c
set_option maxRecDepth 100000 in
set_option maxHeartbeats 8000000 in
theorem lnumbers_any (s : List UInt8) (w : World) (hs : s.length ≤ 4000) : Calls Tryz.prog 62 #[.string ⟨s.toArray⟩] w (RetR rnumR (rnumsF s) w) := by
  have HS := hid (fun W => show Calls Tryz.prog 20 #[.string ⟨s.toArray⟩, .int .u8 44] W (RetR wdR (splitF 44 s) W) from rcut_any 44 s W (by omega))
  have HL := hid (split_len 44 s).1; have HP := hid (split_pos 44 s)
  have HA := hid (fun k (hk : k < (splitF 44 s).length) => Nat.le_trans (split_at hk) hs)
  have HN := hid (show rnumsF s = numsF (splitF 44 s) from rfl)
  have Hs := hid hs
  obtain ⟨i0, hi0, hz0, hz1, hz2⟩ := info_parts Tryz.infoInt
  clear hs
  generalize splitF 44 s = W at *
  have hWl : W.length ≤ 4001 := by have := HL.out; have := Hs.out; omega
  go_enter Tryz.func62, Tryz.ntmps62
  go_wp2_with (first
                        | ((go_at_call 20; (with_reducible refine (HS.out _).mono ?_); rintro e w1 ⟨x1, v1, rfl, rfl, hv1, hb1⟩ <;> (obtain ⟨g, cg, rfl, hg, hcg, hcs⟩ := hv1; have HC := hid hcs; clear hcs)) <;> (have hle := Up.le hb1; (try simp only [World.size_alloc, World.size_setCell, World.size_drew, World.heap_drewN] at hle); clear hle)))
  go_loopw [5, 6, 7, 8] (fun v i _ _ wr => ∃ (k : Nat) (L : List Int), k ≤ W.length ∧ i = .int .i64 k ∧ Hid (L.length = k) ∧ wr.ownsRow w1.heap.size 3 1 v L.length (ints L) ∧ Up w1 wr ∧ Hid (numsF W = preN L (numsF (W.drop k)))) (fun _ i _ _ _ => W.length - (intOf i).toNat)
  case atStart => exact ⟨0, [], by omega, rfl, rfl, World.ownsRow_nil _ _ _ _, Up.refl _, by show _ = _; rw [preN_nil]; rfl⟩
  case round =>
    obtain ⟨k, L, hk, rfl, HLk, hown, hU, H⟩ := hrel
    have hk0 : (0 : Int) ≤ (k : Int) := by omega
    by_cases hlt : k < W.length
    · have hkl : (k : Int) < (W.length : Int) := by omega
      have hkd : decide ((k : Int) < (W.length : Int)) = true := decide_eq_true hkl
      have qk := ((bcell hU).1 _ _ hg).trans (HC.out k hlt)
      have hm := HA.out k hlt
      have Hdr := hid (wdrop W k hlt)
      have HJ := hid hlt
      have HOW := hid hown
      generalize W[k]?.getD [] = y at *
      have HM := hid (show y.length ≤ 1048576 by omega)
      clear hlt hm hown
      cases hp : parseF y with
      | error e =>
        have Hp := hid hp
        have he := parse_err hp
        clear hp
        go_wp2_with (first
                        | ((go_at_call 17; (with_reducible refine (rread_any y HM.out _).mono ?_); rintro e w2 ⟨x2, hx2, rfl, hb2⟩ <;> (rw [Hp.out] at hx2; subst hx2; dsimp only [rdR])) <;> (have hle := Up.le hb2; (try simp only [World.size_alloc, World.size_setCell, World.size_drew, World.heap_drewN] at hle); clear hle)))
        go_ret2
        refine RetR.mk (none : Option (List Int)) (by (repeat (first | (with_reducible exact Up.refl _) | (with_reducible assumption) | (with_reducible refine Up.alloc ?_ _) | (with_reducible refine Up.drew ?_) | ((with_reducible refine Up.set ?_ ?_ _); rotate_left; focus (first | omega | (simp; done) | (simp; omega))) | (with_reducible refine Up.drewN ?_ _) | (with_reducible refine Up.call ?_ (by with_reducible assumption))))) ?_ rfl (rel := rnumR)
        rw [HN.out, H.out, Hdr.out]
        exact nums_bad Hp.out
      | ok n =>
        have Hp := hid hp
        clear hp
        go_wp2_with (first
                        | ((go_at_call 17; (with_reducible refine (rread_any y HM.out _).mono ?_); rintro e w2 ⟨x2, hx2, rfl, hb2⟩ <;> (rw [Hp.out] at hx2; subst hx2; dsimp only [rdR]; have HO2 := hid (ownsUp HOW.out hb2))) <;> (have hle := Up.le hb2; (try simp only [World.size_alloc, World.size_setCell, World.size_drew, World.heap_drewN] at hle); clear hle))
                        | (at_builtin; refine wpList_append_own_at _ rfl (.tmp 27) (.tmp 29) _ rfl w1.heap.size 3 i0 (.int .i64 0) 1 8 Tryz.underlying71 hi0 hz0 hz1 hz2 rfl (by decide) _ _ _ rfl (HO2.out.alloc _) ⟨w2.heap.size, 0, none⟩ 1 1 [.int .i64 n] rfl rfl (cell_one_new _ _ _) (by simp [Value.oneCell']) (by have := HLk.out; unfold maxLen; omega) (by have := HLk.out; omega) (by have := hU.le; have := hb2.le; simp; omega) ?_; intro v8 w3 own8 g8 _ at8))
        go_roundw
        case rel =>
          refine ⟨k + 1, L ++ [n], HJ.out, by go_num, ?_, ?_, ?_, ?_⟩
          · show _ = _
            have := HLk.out; simp; omega
          · rw [ints_snoc] at own8; simpa using own8
          · exact Below.grown ((hU.call hb2).alloc _) g8 ((hU.call hb2).alloc _).le (fun j hj => (HO2.out.lt j hj).1)
          · show _ = _
            rw [H.out, Hdr.out]
            exact nums_good Hp.out
        case measure => have := HJ.out; simp [intOf]; omega
    · obtain rfl : k = W.length := by omega
      have hkl : ¬ (W.length : Int) < (W.length : Int) := by omega
      have hkd : decide ((W.length : Int) < (W.length : Int)) = false := decide_eq_false hkl
      obtain ⟨A, c, hv, hrd, hc⟩ := own_read hown rfl
      have Hrd := hid hrd; have Hc := hid hc
      have hUw := hb1.call hU
      rw [hv]
      clear hown hv hrd hc
      go_wp2
      go_ret2
      refine RetR.mk (some L : Option (List Int)) hUw ?_ (rel := rnumR) ⟨A, c, rfl, Hrd.out, Hc.out⟩
      rw [HN.out, H.out, List.drop_length]
      simp [numsF, preN]
end Go.Proofs.YtmjcnpolnknkkaaGreatDoor

set_option linter.unusedVariables false
set_option linter.unusedSimpArgs false
namespace Go.Proofs.YtmjcnpolnknkkaaGreatDoor
open Go.RowKit

/-- A span, and whether it is one. -/
def rspB : Option Sp → Value
  | none => .tuple #[.agg #[.int .i64 0, .int .i64 0], .bool false]
  | some p => .tuple #[.agg #[.int .i64 p.lo, .int .i64 p.hi], .bool true]
set_option maxRecDepth 100000 in
set_option maxHeartbeats 4000000 in
theorem rsp_any (s : List UInt8) (w : World) (hs : s.length ≤ 4000) : Calls Tryz.prog 54 #[.string ⟨s.toArray⟩] w (RetX rspB (spanF s) w) := by
  have Hs := hid hs
  clear hs
  rcases span_ways s with ⟨h, e⟩ | ⟨l, h, hl, e⟩ | ⟨a, b, h, hab, e⟩ | ⟨a, b, h, hab, e⟩
  · have H := hid h
    rw [e]
    clear h e
    go_enter Tryz.func54, Tryz.ntmps54
    go_wp2_with (first
                        | ((go_at_call 62; (with_reducible refine (lnumbers_any s _ Hs.out).mono ?_); rintro e w1 ⟨x1, v1, hx1, rfl, hv1, hb1⟩ <;> (rw [H.out] at hx1; subst hx1; obtain rfl := hv1)) <;> (have hle := Up.le hb1; (try simp only [World.size_alloc, World.size_setCell, World.size_drew, World.heap_drewN] at hle); (try (have _ : w.heap.size < w1.heap.size := (by omega); (first | ((apply fk hb1 (w.heap.size); (focus (go_simp; rfl)); (focus (intro o; go_simp)); intro z; (try clear f_0); have f_0 := z; clear z)) | skip); (try (apply fko hb1 (w.heap.size) 0; (focus (go_simp; rfl)); (focus (go_simp; done)); intro z; (try clear g_0_0); have g_0_0 := z; clear z)); (try (apply fko hb1 (w.heap.size) 1; (focus (go_simp; rfl)); (focus (go_simp; done)); intro z; (try clear g_0_1); have g_0_1 := z; clear z)); (try (apply ck hb1 (w.heap.size) 0; (focus (go_simp; rfl)); intro z; (try clear c_0_0); have c_0_0 := z; clear z)); (try (apply ck hb1 (w.heap.size) 1; (focus (go_simp; rfl)); intro z; (try clear c_0_1); have c_0_1 := z; clear z)))); clear hle)))
    go_quiet (fail)
    go_wp2
    (refine bodyPost_res rfl ?_; simp only [results, Tryz.results54]; go_simp; refine resPost_ok ?_)
    exact RetX.mk (none : Option Sp) (by (repeat (first | (with_reducible exact Up.refl _) | (with_reducible assumption) | (with_reducible refine Up.alloc ?_ _) | (with_reducible refine Up.drew ?_) | ((with_reducible refine Up.set ?_ ?_ _); rotate_left; focus (first | omega | (simp; done) | (simp; omega))) | (with_reducible refine Up.drewN ?_ _) | (with_reducible refine Up.call ?_ (by with_reducible assumption))))) rfl rfl
  · have H := hid h
    rw [e]
    have hl2 : ((l.length : Int) != 2) = true := by simp; omega
    have hl3 : ((l.length : Int) == 2) = false := beq_eq_false_iff_ne.2 (by omega)
    clear h e hl
    go_enter Tryz.func54, Tryz.ntmps54
    go_wp2_with (first
                        | ((go_at_call 62; (with_reducible refine (lnumbers_any s _ Hs.out).mono ?_); rintro e w1 ⟨x1, v1, hx1, rfl, hv1, hb1⟩ <;> (rw [H.out] at hx1; subst hx1; obtain ⟨A, c, rfl, hr, hc⟩ := hv1; clear hr)) <;> (have hle := Up.le hb1; (try simp only [World.size_alloc, World.size_setCell, World.size_drew, World.heap_drewN] at hle); (try (have _ : w.heap.size < w1.heap.size := (by omega); (first | ((apply fk hb1 (w.heap.size); (focus (go_simp; rfl)); (focus (intro o; go_simp)); intro z; (try clear f_0); have f_0 := z; clear z)) | skip); (try (apply fko hb1 (w.heap.size) 0; (focus (go_simp; rfl)); (focus (go_simp; done)); intro z; (try clear g_0_0); have g_0_0 := z; clear z)); (try (apply fko hb1 (w.heap.size) 1; (focus (go_simp; rfl)); (focus (go_simp; done)); intro z; (try clear g_0_1); have g_0_1 := z; clear z)); (try (apply ck hb1 (w.heap.size) 0; (focus (go_simp; rfl)); intro z; (try clear c_0_0); have c_0_0 := z; clear z)); (try (apply ck hb1 (w.heap.size) 1; (focus (go_simp; rfl)); intro z; (try clear c_0_1); have c_0_1 := z; clear z)))); clear hle)))
    go_quiet (fail)
    go_wp2
    (refine bodyPost_res rfl ?_; simp only [results, Tryz.results54]; go_simp; refine resPost_ok ?_)
    exact RetX.mk (none : Option Sp) (by (repeat (first | (with_reducible exact Up.refl _) | (with_reducible assumption) | (with_reducible refine Up.alloc ?_ _) | (with_reducible refine Up.drew ?_) | ((with_reducible refine Up.set ?_ ?_ _); rotate_left; focus (first | omega | (simp; done) | (simp; omega))) | (with_reducible refine Up.drewN ?_ _) | (with_reducible refine Up.call ?_ (by with_reducible assumption))))) rfl rfl
  · have H := hid h
    rw [e]
    have hd1 : decide (b < a) = true := decide_eq_true hab
    clear h e
    go_enter Tryz.func54, Tryz.ntmps54
    go_wp2_with (first
                        | ((go_at_call 62; (with_reducible refine (lnumbers_any s _ Hs.out).mono ?_); rintro e w1 ⟨x1, v1, hx1, rfl, hv1, hb1⟩ <;> (rw [H.out] at hx1; subst hx1; obtain ⟨A, c, rfl, hr, hc⟩ := hv1; obtain ⟨k, o, rfl, lk, k0, k1⟩ := two_at hr; clear hr)) <;> (have hle := Up.le hb1; (try simp only [World.size_alloc, World.size_setCell, World.size_drew, World.heap_drewN] at hle); (try (have _ : w.heap.size < w1.heap.size := (by omega); (first | ((apply fk hb1 (w.heap.size); (focus (go_simp; rfl)); (focus (intro o; go_simp)); intro z; (try clear f_0); have f_0 := z; clear z)) | skip); (try (apply fko hb1 (w.heap.size) 0; (focus (go_simp; rfl)); (focus (go_simp; done)); intro z; (try clear g_0_0); have g_0_0 := z; clear z)); (try (apply fko hb1 (w.heap.size) 1; (focus (go_simp; rfl)); (focus (go_simp; done)); intro z; (try clear g_0_1); have g_0_1 := z; clear z)); (try (apply ck hb1 (w.heap.size) 0; (focus (go_simp; rfl)); intro z; (try clear c_0_0); have c_0_0 := z; clear z)); (try (apply ck hb1 (w.heap.size) 1; (focus (go_simp; rfl)); intro z; (try clear c_0_1); have c_0_1 := z; clear z)))); clear hle)))
    go_quiet (fail)
    go_wp2
    (refine bodyPost_res rfl ?_; simp only [results, Tryz.results54]; go_simp; refine resPost_ok ?_)
    exact RetX.mk (none : Option Sp) (by (repeat (first | (with_reducible exact Up.refl _) | (with_reducible assumption) | (with_reducible refine Up.alloc ?_ _) | (with_reducible refine Up.drew ?_) | ((with_reducible refine Up.set ?_ ?_ _); rotate_left; focus (first | omega | (simp; done) | (simp; omega))) | (with_reducible refine Up.drewN ?_ _) | (with_reducible refine Up.call ?_ (by with_reducible assumption))))) rfl rfl
  · have H := hid h
    rw [e]
    have hd1 : decide (b < a) = false := decide_eq_false (by omega)
    clear h e
    go_enter Tryz.func54, Tryz.ntmps54
    go_wp2_with (first
                        | ((go_at_call 62; (with_reducible refine (lnumbers_any s _ Hs.out).mono ?_); rintro e w1 ⟨x1, v1, hx1, rfl, hv1, hb1⟩ <;> (rw [H.out] at hx1; subst hx1; obtain ⟨A, c, rfl, hr, hc⟩ := hv1; obtain ⟨k, o, rfl, lk, k0, k1⟩ := two_at hr; clear hr)) <;> (have hle := Up.le hb1; (try simp only [World.size_alloc, World.size_setCell, World.size_drew, World.heap_drewN] at hle); (try (have _ : w.heap.size < w1.heap.size := (by omega); (first | ((apply fk hb1 (w.heap.size); (focus (go_simp; rfl)); (focus (intro o; go_simp)); intro z; (try clear f_0); have f_0 := z; clear z)) | skip); (try (apply fko hb1 (w.heap.size) 0; (focus (go_simp; rfl)); (focus (go_simp; done)); intro z; (try clear g_0_0); have g_0_0 := z; clear z)); (try (apply fko hb1 (w.heap.size) 1; (focus (go_simp; rfl)); (focus (go_simp; done)); intro z; (try clear g_0_1); have g_0_1 := z; clear z)); (try (apply ck hb1 (w.heap.size) 0; (focus (go_simp; rfl)); intro z; (try clear c_0_0); have c_0_0 := z; clear z)); (try (apply ck hb1 (w.heap.size) 1; (focus (go_simp; rfl)); intro z; (try clear c_0_1); have c_0_1 := z; clear z)))); clear hle)))
    go_quiet (fail)
    go_wp2
    go_region
    all_goals go_wp2
    all_goals
      (refine bodyPost_res rfl ?_; simp only [results, Tryz.results54]; go_simp; refine resPost_ok ?_)
      exact RetX.mk (some ⟨a, b⟩ : Option Sp) (by (repeat (first | (with_reducible exact Up.refl _) | (with_reducible assumption) | (with_reducible refine Up.alloc ?_ _) | (with_reducible refine Up.drew ?_) | ((with_reducible refine Up.set ?_ ?_ _); rotate_left; focus (first | omega | (simp; done) | (simp; omega))) | (with_reducible refine Up.drewN ?_ _) | (with_reducible refine Up.call ?_ (by with_reducible assumption))))) rfl rfl
end Go.Proofs.YtmjcnpolnknkkaaGreatDoor
