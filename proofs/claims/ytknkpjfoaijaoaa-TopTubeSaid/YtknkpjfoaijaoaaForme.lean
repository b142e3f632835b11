/- The walks of form.small, Numbers, exact, Point, At. -/
import Derived.Test.YtknkpjfoaijaoaaFormd
set_option linter.unusedVariables false
set_option linter.unusedSimpArgs false
namespace Go.Proofs.Ytknkpjfoaijaoaa
open Go.RowKit

theorem sm_dec (n : Int) : decide (Sm n) = (decide (-20000 ≤ n) && decide (n ≤ 20000)) := by unfold Sm; exact Bool.decide_and ..
theorem small_any (n : Int) (w : World) :
    Calls Try.prog 60 #[.int .i64 n] w fun e w' => e = .returned (.bool (decide (Sm n))) ∧ w = w' := by
  rw [sm_dec]
  go_enter Try.func60, Try.ntmps60
  go_wp2
  all_goals go_ret
  all_goals simp [*]
  omega
theorem small1_any (n : Int) (w : World) :
    Calls Try.prog 59 #[.int .i64 n] w fun e w' => e = .returned (.bool (!decide (Sm n))) ∧ w = w' := by
  go_enter Try.func59, Try.ntmps59
  go_wp2_with (go_at_call 60; refine (small_any _ _).mono ?_; rintro e w' ⟨rfl, rfl⟩)
  all_goals go_ret
  all_goals exact ⟨rfl, rfl⟩
theorem numbers_eq (x : List Int) : numbersF x = if x.any (fun n => !decide (Sm n)) = true then some 1 else none := by
  unfold numbersF
  by_cases h : ∀ n ∈ x, Sm n
  · rw [if_pos h, if_neg]
    intro h2
    obtain ⟨n, hn, h3⟩ := List.any_eq_true.1 h2
    simp [h n hn] at h3
  · rw [if_neg h, if_pos]
    refine Classical.byContradiction fun h2 => h fun n hn => Classical.byContradiction fun h3 => h2 (List.any_eq_true.2 ⟨n, hn, ?_⟩)
    simp [h3]
theorem numbers_any (A : Option Addr) (x : List Int) (c : Nat) (w : World) (hl : x.length ≤ 1000) (hr : RdI w A x) :
    Calls Try.prog 37 #[.slice A x.length c] w (RetX errV (numbersF x) w) := by
  have hen : ∀ args w, (callFunc 59 args).run Try.prog w = .ok (.enter 59 args) w := enters_of Try.func59 (by kernel_rfl) rfl
  have Hc := hid (fun W (hW : RdI W A x) => containsFunc_any 59 hen (fun n => !decide (Sm n)) A x c W hl hW (fun n W _ => small1_any n W))
  rw [numbers_eq]
  clear hen hl
  have Hr := hid hr; clear hr
  cases ha : x.any (fun n => !decide (Sm n)) with
  | true =>
    have Ha := hid ha; clear ha
    go_enter Try.func37, Try.ntmps37
    go_wp2_with (go_at_call 58; refine (Hc.out _ (Hr.out.up (by (repeat (first | (with_reducible exact Up.refl _) | (with_reducible assumption) | (with_reducible refine Up.alloc ?_ _) | (with_reducible refine Up.drew ?_) | ((with_reducible refine Up.set ?_ ?_ _); rotate_left; focus (first | omega | (simp; done) | (simp; omega))) | (with_reducible refine Up.drewN ?_ _) | (with_reducible refine Up.call ?_ (by with_reducible assumption))))))).mono ?_; rintro e w' ⟨rfl, rfl⟩; rw [Ha.out])
    go_ret
    exact RetX.mk (some 1) (by (repeat (first | (with_reducible exact Up.refl _) | (with_reducible assumption) | (with_reducible refine Up.alloc ?_ _) | (with_reducible refine Up.drew ?_) | ((with_reducible refine Up.set ?_ ?_ _); rotate_left; focus (first | omega | (simp; done) | (simp; omega))) | (with_reducible refine Up.drewN ?_ _) | (with_reducible refine Up.call ?_ (by with_reducible assumption))))) rfl rfl
  | false =>
    have Ha := hid ha; clear ha
    go_enter Try.func37, Try.ntmps37
    go_wp2_with (go_at_call 58; refine (Hc.out _ (Hr.out.up (by (repeat (first | (with_reducible exact Up.refl _) | (with_reducible assumption) | (with_reducible refine Up.alloc ?_ _) | (with_reducible refine Up.drew ?_) | ((with_reducible refine Up.set ?_ ?_ _); rotate_left; focus (first | omega | (simp; done) | (simp; omega))) | (with_reducible refine Up.drewN ?_ _) | (with_reducible refine Up.call ?_ (by with_reducible assumption))))))).mono ?_; rintro e w' ⟨rfl, rfl⟩; rw [Ha.out])
    go_ret
    exact RetX.mk none (by (repeat (first | (with_reducible exact Up.refl _) | (with_reducible assumption) | (with_reducible refine Up.alloc ?_ _) | (with_reducible refine Up.drew ?_) | ((with_reducible refine Up.set ?_ ?_ _); rotate_left; focus (first | omega | (simp; done) | (simp; omega))) | (with_reducible refine Up.drewN ?_ _) | (with_reducible refine Up.call ?_ (by with_reducible assumption))))) rfl rfl
/-- So many factors of 20000 at the most. -/
def Bd (n : Int) (u : Nat) : Prop := -(20000 ^ u : Int) ≤ n ∧ n ≤ 20000 ^ u
theorem Bd.mul {n v : Int} {u : Nat} (h : Bd n u) (hv : Sm v) : Bd (n * v) (u + 1) := by
  unfold Bd at *
  unfold Sm at hv
  rw [Int.pow_succ]
  have h1 : (n * v).natAbs ≤ (20000 ^ u : Int).natAbs * 20000 := by
    rw [Int.natAbs_mul]
    exact Nat.mul_le_mul (by omega) (by omega)
  have h2 : 0 ≤ (20000 ^ u : Int) := Int.pow_nonneg (by omega)
  omega
theorem Bd.big {n : Int} {u : Nat} (h : Bd n u) (hu : u ≤ 4) : -160000000000000000 ≤ n ∧ n ≤ 160000000000000000 := by
  unfold Bd at h
  have h2 : (20000 ^ u : Int) ≤ 160000000000000000 := by
    match u, hu with
    | 0, _ => decide
    | 1, _ => decide
    | 2, _ => decide
    | 3, _ => decide
    | 4, _ => decide
  omega
theorem exactG_step {t : Tm} {k e l : Nat} {m v : Int} {x : List Int} (he : (t.time k).toNat = e) (h0 : 0 ≤ t.time k) (hl : e ≤ l) :
    exactG t k m l (v :: x) = exactG t (k + 1) (m * v ^ e) ((l - e : Nat) : Int) x := by
  conv => lhs; unfold exactG
  rw [he]
  congr 1
  omega
set_option maxRecDepth 100000 in
set_option maxHeartbeats 4000000 in
theorem exact_any (t : Tm) (A : Option Addr) (x : List Int) (c : Nat) (w : World) (kk : Nat) (hr : RdI w A x) (h3 : x.length ≤ 3) (hs : ∀ n ∈ x, Sm n) (hb : Sm t.by_) (hc : tcheckF t kk = none) :
    Calls Try.prog 61 #[.agg #[.int .i64 t.by_, .int .i64 t.t0, .int .i64 t.t1, .int .i64 t.t2], .slice A x.length c] w (RetX intV (exactF t x) w) := by
  obtain ⟨h1, -, -⟩ := tcheck_ok hc
  have Hdeg := hid (deg_le hc x h3)
  have Hr := hid hr
  have H1 := hid h1
  have Hs := hid (fun k (hk : k < x.length) => hs (x[k]?.getD 0) (by rw [List.getElem?_eq_getElem hk]; exact List.getElem_mem hk))
  have Hb := hid (show Bd t.by_ 1 by unfold Sm at hb; unfold Bd; omega)
  clear hr hs hc h1 hb
  go_enter Try.func61, Try.ntmps61
  go_wp2
  go_loopw [5, 6, 13] (fun n left i wr => ∃ (k u l : Nat) (m : Int), k ≤ x.length ∧ n = .int .i64 m ∧ left = .int .i64 l ∧ i = .int .i64 k ∧ u + l = 4 ∧ Bd m u ∧ Hid (exactF t x = exactG t k m l (x.drop k)) ∧ Hid (degX t k (x.drop k) ≤ l) ∧ Up w wr ∧
    (Cf wr w.heap.size 0 (.int .i64 t.by_) ∧ Cf wr w.heap.size 1 (.int .i64 t.t0) ∧ Cf wr w.heap.size 2 (.int .i64 t.t1) ∧ Cf wr w.heap.size 3 (.int .i64 t.t2)))
    (fun _ _ i _ => x.length - (intOf i).toNat)
  case atStart =>
    refine ⟨0, 1, 3, t.by_, by omega, rfl, rfl, rfl, by omega, Hb.out, rfl, Hdeg.out, ?_, ⟨⟨by go_simp, by go_simp⟩, ⟨by go_simp, by go_simp⟩, ⟨by go_simp, by go_simp⟩, ⟨by go_simp, by go_simp⟩⟩⟩
    (repeat (first | (with_reducible exact Up.refl _) | (with_reducible assumption) | (with_reducible refine Up.alloc ?_ _) | (with_reducible refine Up.drew ?_) | ((with_reducible refine Up.set ?_ ?_ _); rotate_left; focus (first | omega | (simp; done) | (simp; omega))) | (with_reducible refine Up.drewN ?_ _) | (with_reducible refine Up.call ?_ (by with_reducible assumption))))
  case round =>
    obtain ⟨k, u, l, m, hk, rfl, rfl, rfl, hul, hB, H, HD, hU, ⟨⟨c0, g0⟩, ⟨c1, g1⟩, ⟨c2, g2⟩, ⟨c3, g3⟩⟩⟩ := hrel
    have gr := (bcell hU).1
    have hle := hU.le
    have HB := hid hB
    have Hul := hid hul
    clear hB hul
    by_cases hlt : k < x.length
    · obtain ⟨b1, o1, rfl, lb, cc⟩ := (Hr.out).at (by omega)
      have j1 := (gr _ _ lb).trans (cc k hlt)
      have lbr : b1 < wr.heap.size := by omega
      have hsv := Hs.out k hlt
      have Hdr := hid (idrop x k hlt)
      have Hlt := hid hlt
      have hk3 : k = 0 ∨ k = 1 ∨ k = 2 := by omega
      obtain ⟨e, he, ht⟩ : ∃ e : Nat, (t.time k).toNat = e ∧ wr.cell? ⟨w.heap.size, 1 + k, none⟩ = some (.int .i64 (e : Int)) := by
        have hti := H1.out k
        refine ⟨(t.time k).toNat, rfl, ?_⟩
        rw [Int.toNat_of_nonneg hti.1]
        rcases hk3 with rfl | rfl | rfl
        · exact c1
        · exact c2
        · exact c3
      have hdk : decide ((k : Int) < (x.length : Int)) = true := by simp; omega
      have hk0 : (0 : Int) ≤ (k : Int) := by omega
      have hk33 : (k : Int) < 3 := by omega
      generalize x[k]?.getD 0 = v at *
      have Hsv := hid hsv
      have HE := hid he
      have HEl := hid (show e + degX t (k + 1) (x.drop (k + 1)) ≤ l by
        have := HD.out
        rw [Hdr.out] at this
        simp only [degX, he] at this
        exact this)
      clear cc gr hk3 he hlt hsv
      go_wp2
      go_loop [5, 6, 22] (fun n left j => ∃ (jj : Nat) (y : Int) (r : Nat), jj ≤ e ∧ n = .int .i64 y ∧ left = .int .i64 r ∧ j = .int .i64 jj ∧ Hid (jj + r = l) ∧ Hid (y = m * v ^ jj) ∧ Hid (Bd y (u + jj))) (fun _ _ j => e - (intOf j).toNat)
      case atStart => exact ⟨0, m, l, by omega, rfl, rfl, rfl, by simp [Hid], by simp [Hid], HB.out⟩
      case round =>
        obtain ⟨jj, y, r, hj, rfl, rfl, rfl, Hr1, Hy, Hbd⟩ := hrel
        by_cases hje : jj < e
        · have hdj : decide ((jj : Int) < (e : Int)) = true := by simp; omega
          have hb2 := (Hbd.out.mul Hsv.out)
          have Hb2 := hid hb2
          obtain ⟨hb3, hb4⟩ := hb2.big (by have := Hr1.out; have := HEl.out; have := Hul.out; omega)
          clear hb2
          have hr0 : (0 : Int) < r := by have := Hr1.out; have := HEl.out; omega
          have hr3 : (r : Int) ≤ 4 := by have := Hr1.out; have := HEl.out; have := Hul.out; omega
          have hj3 : (jj : Int) < 4 := by have := Hr1.out; have := HEl.out; have := Hul.out; omega
          go_wp2
          go_round
          case rel =>
            refine ⟨jj + 1, y * v, r - 1, by omega, ?_, ?_, by go_num, ?_, ?_, ?_⟩
            · rfl
            · congr 1; omega
            · have := Hr1.out; show _ = _; omega
            · show _ = _; rw [Hy.out, Int.pow_succ, Int.mul_assoc]
            · exact Hb2.out
          case measure => simp [intOf]; omega
        · obtain rfl : jj = e := by omega
          have hk9 := Hlt.out
          go_wp2
          go_roundw
          case rel =>
            have hrl : r = l - jj := by have := Hr1.out; omega
            refine ⟨k + 1, u + jj, r, y, by omega, rfl, rfl, by go_num, by have := Hr1.out; have := Hul.out; omega, Hbd.out, ?_, ?_, hU, ⟨⟨c0, g0⟩, ⟨c1, g1⟩, ⟨c2, g2⟩, ⟨c3, g3⟩⟩⟩
            · show _ = _
              rw [H.out, Hdr.out, exactG_step HE.out (H1.out k).1 (by have := HEl.out; omega), Hy.out, hrl]
            · have := HEl.out
              have := Hr1.out
              show _ ≤ _
              omega
          case measure => simp [intOf]; omega
    · obtain rfl : k = x.length := by omega
      have hfin : exactF t x = m * 1000 ^ l := by rw [H.out, List.drop_length]; rfl
      have Hfin := hid hfin
      clear hfin
      go_wp2
      go_loop [5, 32] (fun n j => ∃ (jj : Nat) (y : Int), jj ≤ l ∧ n = .int .i64 y ∧ j = .int .i64 jj ∧ Hid (y = m * 1000 ^ jj) ∧ Hid (Bd y (u + jj))) (fun _ j => l - (intOf j).toNat)
      case atStart => exact ⟨0, m, by omega, rfl, rfl, by simp [Hid], HB.out⟩
      case round =>
        obtain ⟨jj, y, hj, rfl, rfl, Hy, Hbd⟩ := hrel
        by_cases hje : jj < l
        · have hdj : decide ((jj : Int) < (l : Int)) = true := by simp; omega
          have hb2 := (Hbd.out.mul (show Sm 1000 by unfold Sm; omega))
          have Hb2 := hid hb2
          obtain ⟨hb3, hb4⟩ := hb2.big (by have := Hul.out; omega)
          clear hb2
          have hj3 : (jj : Int) < 4 := by have := Hul.out; omega
          go_wp2
          go_round
          case rel =>
            refine ⟨jj + 1, y * 1000, by omega, ?_, by go_num, ?_, ?_⟩
            · rfl
            · show _ = _; rw [Hy.out, Int.pow_succ, Int.mul_assoc]
            · exact Hb2.out
          case measure => simp [intOf]; omega
        · obtain rfl : jj = l := by omega
          go_wp2
          go_ret
          refine RetX.mk (m * 1000 ^ jj) hU ?_ ?_
          · rw [Hfin.out]
          · rw [Hy.out]; rfl
theorem Bd.pow {n v : Int} {u : Nat} (h : Bd n u) (hv : Sm v) : ∀ e : Nat, Bd (n * v ^ e) (u + e)
  | 0 => by simpa using h
  | e + 1 => by
    have := (Bd.pow h hv e).mul hv
    rw [Int.pow_succ, ← Int.mul_assoc]
    exact this
theorem exactG_bd {t : Tm} (ht : ∀ i, 0 ≤ t.time i) : ∀ (x : List Int) (k l u : Nat) (m : Int), u + l = 4 → Bd m u → degX t k x ≤ l → (∀ n ∈ x, Sm n) → Bd (exactG t k m l x) 4
  | [], k, l, u, m, h, hb, _, _ => by
    rw [← h]
    exact hb.pow (show Sm 1000 by unfold Sm; omega) l
  | v :: x, k, l, u, m, h, hb, hd, hs => by
    simp only [degX] at hd
    rw [exactG_step rfl (ht k) (by omega)]
    exact exactG_bd ht x (k + 1) _ (u + (t.time k).toNat) _ (by omega) (hb.pow (hs v (by simp)) _) (by omega) (fun n hn => hs n (by simp [hn]))
theorem exact_bd {t : Tm} {kk : Nat} {x : List Int} (h3 : x.length ≤ 3) (hs : ∀ n ∈ x, Sm n) (hb : Sm t.by_) (hc : tcheckF t kk = none) : -160000000000000000 ≤ exactF t x ∧ exactF t x ≤ 160000000000000000 :=
  (exactG_bd (fun i => ((tcheck_ok hc).1 i).1) x 0 3 1 _ (by omega) (show Bd t.by_ 1 by unfold Sm at hb; unfold Bd; omega) (deg_le hc x h3) hs).big (by omega)
theorem pointG_no {x : List Int} {m : Int} {t : Tm} {l : List Tm} (h : ¬ Sm t.by_) : pointG x m (t :: l) = .error 4 := by
  unfold pointG; rw [if_neg h]
theorem pointG_go {x : List Int} {m : Int} {t : Tm} {l : List Tm} (h : Sm t.by_) : pointG x m (t :: l) = pointG x (m + exactF t x) l := by
  conv => lhs; unfold pointG
  rw [if_pos h]
set_option maxRecDepth 100000 in
set_option maxHeartbeats 4000000 in
theorem point_any (f : List Tm) (A B : Option Addr) (x : List Int) (c d : Nat) (w : World) (kk : Nat) (hf : RdT w A f) (hr : RdI w B x) (h3 : x.length ≤ 3) (hs : ∀ n ∈ x, Sm n) (hc : firstBadT kk f = none) (hm : f.length ≤ 6) :
    Calls Try.prog 38 #[.slice A f.length c, .slice B x.length d] w (RetX intR (pointF f x) w) := by
  have Hf := hid hf; have Hr := hid hr; have Hm := hid hm
  have hat := fun k (hk : k < f.length) => firstBadT_at hc (f[k]?.getD default) (by rw [List.getElem?_eq_getElem hk]; exact List.getElem_mem hk)
  have He := hid (fun k (hk : k < f.length) W hW hsm => exact_any (f[k]?.getD default) B x d W kk hW h3 hs hsm (hat k hk))
  have Hbd := hid (fun k (hk : k < f.length) hsm => exact_bd (t := f[k]?.getD default) h3 hs hsm (hat k hk))
  clear hf hr h3 hs hc hm hat
  go_enter Try.func38, Try.ntmps38
  go_wp2
  go_loopw [6, 12] (fun n i wr => ∃ (k : Nat) (m : Int), k ≤ f.length ∧ n = .int .i64 m ∧ i = .int .i64 k ∧ Hid (pointG x 0 f = pointG x m (f.drop k)) ∧ Hid (-(k * 160000000000000000 : Int) ≤ m ∧ m ≤ k * 160000000000000000) ∧ Up w wr)
    (fun _ i _ => f.length - (intOf i).toNat)
  case atStart =>
    refine ⟨0, 0, by omega, rfl, rfl, rfl, ?_, ?_⟩
    · show _ ∧ _; omega
    · (repeat (first | (with_reducible exact Up.refl _) | (with_reducible assumption) | (with_reducible refine Up.alloc ?_ _) | (with_reducible refine Up.drew ?_) | ((with_reducible refine Up.set ?_ ?_ _); rotate_left; focus (first | omega | (simp; done) | (simp; omega))) | (with_reducible refine Up.drewN ?_ _) | (with_reducible refine Up.call ?_ (by with_reducible assumption))))
  case round =>
    obtain ⟨k, m, hk, rfl, rfl, H, HM, hU⟩ := hrel
    have gr := (bcell hU).1
    have hle := hU.le
    by_cases hlt : k < f.length
    · obtain ⟨b1, o1, rfl, lb, cc⟩ := (Hf.out).at (by omega)
      obtain ⟨q1, q2, q3, q4⟩ := cc k hlt
      have j1 := (gr _ _ lb).trans q1
      have j2 := (gr _ _ lb).trans q2
      have j3 := (gr _ _ lb).trans q3
      have j4 := (gr _ _ lb).trans q4
      have lbr : b1 < wr.heap.size := by omega
      have Hdr := hid (tdrop f k hlt)
      have Hlt := hid hlt
      have Hon := hid (fun W hW hsm => He.out k hlt W hW hsm)
      have Hbo := hid (fun hsm => Hbd.out k hlt hsm)
      have hdk : decide ((k : Int) < (f.length : Int)) = true := by simp; omega
      have hk0 : (0 : Int) ≤ (k : Int) := by omega
      have hk9 : (k : Int) < 6 := by have := Hm.out; omega
      generalize f[k]?.getD default = t at *
      clear cc q1 q2 q3 q4 gr hlt
      by_cases hsm : Sm t.by_
      · have Hsm := hid hsm
        have Hd := hid (decide_eq_true hsm)
        have HB := hid (Hbo.out hsm)
        have hb1 : -960000000000000000 ≤ m + exactF t x := by have := HM.out; have := HB.out; omega
        have hb2 : m + exactF t x ≤ 960000000000000000 := by have := HM.out; have := HB.out; omega
        clear hsm
        go_wp2_with (first
                        | (go_at_call 60; refine (small_any _ _).mono ?_; rintro e w1 ⟨rfl, rfl⟩) <;> rw [Hd.out]
                        | ((go_at_call 61; refine (Hon.out _ (Hr.out.up (by (repeat (first | (with_reducible exact Up.refl _) | (with_reducible assumption) | (with_reducible refine Up.alloc ?_ _) | (with_reducible refine Up.drew ?_) | ((with_reducible refine Up.set ?_ ?_ _); rotate_left; focus (first | omega | (simp; done) | (simp; omega))) | (with_reducible refine Up.drewN ?_ _) | (with_reducible refine Up.call ?_ (by with_reducible assumption)))))) Hsm.out).mono ?_; rintro e w2 ⟨x2, hx2, rfl, hb2⟩); subst hx2; obtain ⟨hc2, hf2⟩ := bcell hb2))
        go_roundw
        case rel =>
          refine ⟨k + 1, m + exactF t x, by have := Hlt.out; omega, rfl, by go_num, ?_, ?_, ?_⟩
          · show _ = _
            rw [H.out, Hdr.out, pointG_go Hsm.out]
          · have := HM.out; have := HB.out; show _ ∧ _; omega
          · (repeat (first | (with_reducible exact Up.refl _) | (with_reducible assumption) | (with_reducible refine Up.alloc ?_ _) | (with_reducible refine Up.drew ?_) | ((with_reducible refine Up.set ?_ ?_ _); rotate_left; focus (first | omega | (simp; done) | (simp; omega))) | (with_reducible refine Up.drewN ?_ _) | (with_reducible refine Up.call ?_ (by with_reducible assumption))))
        case measure => have := Hlt.out; simp [intOf]; omega
      · have Hsm := hid hsm
        have Hd := hid (decide_eq_false hsm)
        clear hsm
        go_wp2_with (first
                        | (go_at_call 60; refine (small_any _ _).mono ?_; rintro e w1 ⟨rfl, rfl⟩) <;> rw [Hd.out])
        go_ret2
        refine RetX.mk (.error 4) ?_ ?_ rfl
        · (repeat (first | (with_reducible exact Up.refl _) | (with_reducible assumption) | (with_reducible refine Up.alloc ?_ _) | (with_reducible refine Up.drew ?_) | ((with_reducible refine Up.set ?_ ?_ _); rotate_left; focus (first | omega | (simp; done) | (simp; omega))) | (with_reducible refine Up.drewN ?_ _) | (with_reducible refine Up.call ?_ (by with_reducible assumption))))
        · unfold pointF; rw [H.out, Hdr.out, pointG_no Hsm.out]
    · obtain rfl : k = f.length := by omega
      have hp : pointG x 0 f = .ok m := by rw [H.out, List.drop_length]; rfl
      have Hp := hid hp
      obtain ⟨q1, q2⟩ := HM.out
      have hb1 : -4000000000000000000 ≤ m := by have := Hm.out; omega
      have hb2 : m ≤ 4000000000000000000 := by have := Hm.out; omega
      clear hp gr
      have Hb1 := hid hb1; have Hb2 := hid hb2
      cases hmm : mayB (dn m 1000000000) with
      | false =>
        have Hmm := hid hmm; clear hmm
        go_wp2_with (first
                        | (go_at_call 62; refine (down_any _ _ _ (by omega) Hb1.out Hb2.out (by omega)).mono ?_; rintro e w1 ⟨rfl, rfl⟩)
                        | (go_at_call 39; refine (may_any _ _).mono ?_; rintro e w1 ⟨rfl, rfl⟩) <;> rw [Hmm.out])
        go_ret2
        refine RetX.mk (.error 4) hU ?_ rfl
        unfold pointF; rw [Hp.out]; show (if _ then _ else _) = _; rw [if_neg (mayB_false.1 Hmm.out)]
      | true =>
        have Hmm := hid hmm; clear hmm
        go_wp2_with (first
                        | (go_at_call 62; refine (down_any _ _ _ (by omega) Hb1.out Hb2.out (by omega)).mono ?_; rintro e w1 ⟨rfl, rfl⟩)
                        | (go_at_call 39; refine (may_any _ _).mono ?_; rintro e w1 ⟨rfl, rfl⟩) <;> rw [Hmm.out])
        go_ret2
        refine RetX.mk (.ok (dn m 1000000000)) hU ?_ rfl
        unfold pointF; rw [Hp.out]; show (if _ then _ else _) = _; rw [if_pos (mayB_true.1 Hmm.out)]
theorem atq {x : List Int} (h : numbersF x = none) : ∀ n ∈ x, Sm n := by
  unfold numbersF at h
  split at h
  · assumption
  · cases h
theorem xfew {f : List Tm} {n : Nat} (h : fcheckF f (n : Int) = none) : n ≤ 3 := by have := (fcheck_ok h).2.1; omega
end Go.Proofs.Ytknkpjfoaijaoaa
