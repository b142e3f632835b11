/- TopKept: boxes of a tube that were logged, and kept, are the tube's beginning, and all together have each of these. No condition. -/
import Derived.Test.YtmjcnpolnknkkaaGreatDoorLelp
import Derived.Test.YtmjcnpolnknkkaaGreatDoorTop
import Derived.Test.YtmjcnpolnknkkaaGreatDoorStepc
import Derived.Test.YtmjcnpolnknkkaaGreatDoorFlow
import Derived.Test.YtmjcnpolnknkkaaGreatDoorLogc
import Derived.Test.YtmjcnpolnknkkaaGreatDoorSbox
import Derived.Test.YtmjcnpolnknkkaaGreatDoorSerr
import Derived.Test.YtmjcnpolnknkkaaGreatDoorRowc
import Derived.Deep.DeepCutAuto
import Derived.Deep.CutBlock

set_option linter.unusedVariables false
set_option linter.unusedSimpArgs false
namespace Go.Proofs.YtmjcnpolnknkkaaGreatDoor
open Go.ChangeShapes Go.WideShapes Go.ChangeAt Go.RowKit Go.Joins Go.Deep

theorem RdR.takeS {w : World} {A : Option Addr} {l : List (List Sp)} (h : RdR RdS w A l) (m : Nat) : RdR RdS w A (l.take m) := fun hm => by
  have hl : l ≠ [] := fun e => hm (by rw [e]; simp)
  obtain ⟨b, o, e, hb, hc⟩ := h hl
  refine ⟨b, o, e, hb, fun k hk => ?_⟩
  rw [List.length_take] at hk
  have e2 : (l.take m)[k]? = l[k]? := List.getElem?_take_of_lt (by omega)
  rw [e2]
  exact hc k (by omega)
theorem take_get {α : Type} {l : List α} {m k : Nat} (h : k < m) : (l.take m)[k]? = l[k]? := List.getElem?_take_of_lt h
theorem sboxes_nil (A B : Option Addr) (c d : Nat) (w : World) : Calls Tryz.prog 31 #[.slice A 0 c, .slice B 0 d] w fun ev w' => ev = .returned (.bool true) ∧ Up w w' :=
  sboxes_self A B [] c d w (RdR.nil _ _ _) (RdR.nil _ _ _) (by simp) (by simp)
theorem new_goodW (n : Nat) (w : World) (h1 : 1 ≤ n) (h3 : n ≤ 3) : Calls Tryz.prog 25 #[.int .i64 n] w fun e w' => ∃ g, e = .returned (.tuple #[.pointer (some ⟨g, 0, none⟩), .nilIface]) ∧ LgW w w' g (.slice none 0 0) (newF n) :=
  (new_good n w (by omega) (by omega)).mono fun e w' h => ⟨_, h.1, h.2.1, h.2.2, Nat.le_refl _⟩
theorem run_pos {s : Sy} {b : List Sp} {n : Int} {L : List (List Sp)} (h : runF s b n = .ok L) : 1 ≤ L.length ∧ L.length ≤ 21 ∧ L[0]?.getD [] = b := by
  obtain ⟨h1, h2, -, h4⟩ := run_parts h
  obtain ⟨t, rfl⟩ := run_head _ b L h4
  have := run_len _ b _ h4
  exact ⟨by simp, by omega, rfl⟩
/-- What the law sees behind the crash. -/
theorem kept_parts {s : Sy} {b : List Sp} {L : List (List Sp)} (hT : TubeP s b L) {m : Nat} (hm : m ≤ L.length) : ∃ M : List (List Sp), M = L.take m ∧ M.length ≤ L.length ∧ (∀ k, k < M.length → (M[k]?.getD []).length ≤ 3) ∧ (∀ x ∈ M, x.length ≤ 9223372036854775807) ∧
    ((M = [] ∧ hullF M = .error 5) ∨ (0 < M.length ∧ ∃ H, hullF M = .ok H ∧ (∀ k, k < M.length → withinF (M[k]?.getD []) H = .ok true) ∧ (M.length < L.length → ofF s (M[M.length - 1]?.getD []) = .ok (L[M.length]?.getD [])))) := by
  have hlen : (L.take m).length = m := by rw [List.length_take]; omega
  have hall : ∀ y ∈ L.take m, Bx y ∧ y.length = b.length := fun y hy => by
    obtain ⟨i, hi, rfl⟩ := List.getElem_of_mem hy
    rw [hlen] at hi
    have := hT.bx i (by omega)
    rw [List.getElem?_eq_getElem (by omega)] at this
    simpa using this
  have hmem : ∀ k, k < (L.take m).length → (L.take m)[k]?.getD [] ∈ L.take m := fun k hk => by
    rw [List.getElem?_eq_getElem hk]; exact List.getElem_mem hk
  refine ⟨L.take m, rfl, by omega, fun k hk => (hall _ (hmem k hk)).1.few, fun x hx => by have := (hall x hx).1.few; omega, ?_⟩
  by_cases h0 : m = 0
  · subst h0; exact .inl ⟨rfl, rfl⟩
  · refine .inr ⟨by omega, ?_⟩
    obtain ⟨H, h1, h2⟩ := hull_is hall (fun e => by
      have := congrArg List.length e
      rw [hlen] at this
      simp at this
      omega)
    refine ⟨H, h1, fun k hk => h2 _ (hmem k hk), fun hlt => ?_⟩
    rw [hlen] at hlt ⊢
    have := hT.step (m - 1) (by omega)
    have e : m - 1 + 1 = m := by omega
    rw [e] at this
    rw [take_get (by omega)]
    exact this
set_option maxRecDepth 100000 in
set_option maxHeartbeats 16000000 in
theorem topKept_main (As Bs : Option Addr) (s : Sy) (cs es : Nat) (Ab : Option Addr) (b : List Sp) (cb : Nat) (n fl kp : Int) (w : World) (rs : RY w As Bs s) (rb : RdS w Ab b) (hf : I64 fl) (hk : I64 kp) (hd : Door4 w) {L : List (List Sp)} (hl : runF s b n = .ok L) (h20 : L.length ≤ 20) :
    Calls Tryz.prog 7 #[.agg #[.slice As s.next.length cs, .slice Bs s.push.length es], .slice Ab b.length cb, .int .i64 n, .int .i64 fl, .int .i64 kp] w (LawEnd w) := by
  have hT := tube_of hl
  obtain ⟨hL1, -, hL0⟩ := run_pos hl
  obtain ⟨hB, hbl⟩ := hT.bx 0 (by omega)
  rw [hL0] at hB
  have HN1 := hid (show 1 ≤ b.length from hB.pos); have HN3 := hid hB.few
  have HT := hid hT; have HL := hid hl; have HL1 := hid hL1; have HL20 := hid h20
  have Rs := hid rs; have Rb := hid rb; have Hf := hid hf; have Hk := hid hk; have HD := hid hd.1; have HP := hid hd.2
  clear hT hL1 hL0 hB hbl hl h20 rs rb hf hk hd
  have hd20 : decide ((20 : Int) < (L.length : Int)) = false := decide_eq_false (by have := HL20.out; omega)
  go_enter Tryz.func7, Tryz.ntmps7
  go_upto_region 11 with (first
    | ((go_at_call 23; (with_reducible refine (top_any _).mono ?_); rintro e w1 ⟨x1, rfl, rfl, hb1⟩ <;> (apply ck hb1 (w.heap.size) 0; (focus (first | (go_simp; done) | (go_simp; rfl))); intro k0; apply ck hb1 (w.heap.size) 1; (focus (first | (go_simp; done) | (go_simp; rfl))); intro k1)) <;> (have hle := Up.le hb1; (try simp only [World.size_alloc, World.size_setCell, World.size_drew, World.heap_drewN] at hle); clear hle))
    | ((go_at_call 24; (with_reducible refine (run_any _ _ _ s b n _ _ _ _ (Rs.out.up (by (repeat (first | (with_reducible exact Up.refl _) | (with_reducible assumption) | (with_reducible refine Up.alloc ?_ _) | (with_reducible refine Up.drew ?_) | ((with_reducible refine Up.set ?_ ?_ _); rotate_left; focus (first | omega | (simp; done) | (simp; omega))) | (with_reducible refine Up.drewN ?_ _) | (with_reducible refine Up.call ?_ (by with_reducible assumption)))))) (Rb.out.up (by (repeat (first | (with_reducible exact Up.refl _) | (with_reducible assumption) | (with_reducible refine Up.alloc ?_ _) | (with_reducible refine Up.drew ?_) | ((with_reducible refine Up.set ?_ ?_ _); rotate_left; focus (first | omega | (simp; done) | (simp; omega))) | (with_reducible refine Up.drewN ?_ _) | (with_reducible refine Up.call ?_ (by with_reducible assumption))))))).mono ?_); rintro e w2 ⟨x2, v2, hx2, rfl, hv2, hb2⟩ <;> (rw [HL.out] at hx2; subst hx2; obtain ⟨A2, c2, rfl, hrd2, hc2⟩ := rlNE_ok hv2; obtain ⟨b0, o0, rfl, lb0, cc0⟩ := hrd2.at HL1.out; have HR2 := hid hrd2; have LB0 := hid lb0; have CC0 := hid cc0; apply ck hb2 (w.heap.size) 0; (focus exact k0); intro m0; apply ck hb2 (w.heap.size) 1; (focus exact k1); intro m1; have HU2 := hid (show Up w w2 by (repeat (first | (with_reducible exact Up.refl _) | (with_reducible assumption) | (with_reducible refine Up.alloc ?_ _) | (with_reducible refine Up.drew ?_) | ((with_reducible refine Up.set ?_ ?_ _); rotate_left; focus (first | omega | (simp; done) | (simp; omega))) | (with_reducible refine Up.drewN ?_ _) | (with_reducible refine Up.call ?_ (by with_reducible assumption))))); have M0 := hid m0; have M1 := hid m1; clear hv2 hrd2 lb0 cc0 k0 k1 m0 m1)) <;> (have hle := Up.le hb2; (try simp only [World.size_alloc, World.size_setCell, World.size_drew, World.heap_drewN] at hle); clear hle))
    | ((go_at_call 25; (with_reducible refine (new_goodW b.length _ HN1.out HN3.out).mono ?_); rintro e w3 ⟨g, rfl, hL3⟩ <;> (have hb3 := hL3.since; have HL3 := hid hL3; clear hL3)) <;> (have hle := Up.le hb3; (try simp only [World.size_alloc, World.size_setCell, World.size_drew, World.heap_drewN] at hle); clear hle))
    | ((go_at_call 26; (with_reducible refine (fail_W fl (HL3.out.up (by (repeat (first | (with_reducible exact Up.refl _) | (with_reducible assumption) | (with_reducible refine Up.alloc ?_ _) | (with_reducible refine Up.drew ?_) | ((with_reducible refine Up.set ?_ ?_ _); rotate_left; focus (first | omega | (simp; done) | (simp; omega))) | (with_reducible refine Up.drewN ?_ _) | (with_reducible refine Up.call ?_ (by with_reducible assumption)))))) Hf.out).mono ?_); rintro e w4 ⟨v4, rfl, hL4⟩ <;> (have hb4 := hL4.since; have HL4 := hid hL4; clear hL4)) <;> (have hle := Up.le hb4; (try simp only [World.size_alloc, World.size_setCell, World.size_drew, World.heap_drewN] at hle); clear hle)))
  have HK0 := hid (show KeptP L b.length 0 (failF (newF b.length) fl) from ⟨rfl, rfl⟩)
  have HP2 := hid (HP.out.up HU2.out)
  go_upto_block 0 with fail
  go_cut [] (fun wx => ∃ (k : Nat) (v : Value) (l : Lg), k ≤ L.length ∧ Hid (KeptP L b.length k l) ∧ Hid (LgW w2 wx g v l))
  case first =>
    as_aux_lemma =>
    go_wp2_with fail
    go_loopw [15] (fun i wr => ∃ (k : Nat) (v : Value) (l : Lg), i = .int .i64 k ∧ k ≤ L.length ∧ Hid (KeptP L b.length k l) ∧ Hid (LgW w2 wr g v l)) (fun i _ => L.length - (intOf i).toNat)
    case atStart => exact ⟨0, v4, _, rfl, by omega, HK0.out, HL4.out⟩
    case round =>
      obtain ⟨k, v, l, rfl, hk, HK, HG⟩ := hrel
      have hU := HG.out.since
      have hle := hU.le
      have hk0 : (0 : Int) ≤ (k : Int) := by omega
      have h20 := HL20.out
      by_cases hlt : k < L.length
      · obtain ⟨A', c', q1, q2, q3⟩ := CC0.out k hlt
        have qk := ((bcell hU).1 _ _ LB0.out).trans q1
        have hkl : (k : Int) < (L.length : Int) := by omega
        have hkd : decide ((k : Int) < (L.length : Int)) = true := decide_eq_true hkl
        obtain ⟨r, l', hp, hor⟩ := kept_put HK.out hlt HL20.out (HT.out.bx k hlt).1 (HT.out.bx k hlt).2
        have Hp := hid hp; have HQ := hid q3; have HJ := hid hlt
        generalize L[k]?.getD [] = y at *
        clear hp q1 q2 q3 hlt
        rcases hor with ⟨rfl, hk6⟩ | ⟨rfl, hk7⟩
        · have HK6 := hid hk6
          clear hk6
          go_wp2_with (first
                        | ((go_at_call 27; (with_reducible refine (put_W (HG.out.up (by (repeat (first | (with_reducible exact Up.refl _) | (with_reducible assumption) | (with_reducible refine Up.alloc ?_ _) | (with_reducible refine Up.drew ?_) | ((with_reducible refine Up.set ?_ ?_ _); rotate_left; focus (first | omega | (simp; done) | (simp; omega))) | (with_reducible refine Up.drewN ?_ _) | (with_reducible refine Up.call ?_ (by with_reducible assumption)))))) Hp.out HQ.out HP2.out).mono ?_); rintro e w5 ⟨v5, rfl, hL5⟩ <;> (have hb5 := hL5.since; have HL5 := hid hL5; clear hL5)) <;> (have hle := Up.le hb5; (try simp only [World.size_alloc, World.size_setCell, World.size_drew, World.heap_drewN] at hle); clear hle)))
          go_meet
          exact ⟨k, v5, l', hk, HK6.out, HL5.out⟩
        · obtain ⟨r2, l2, hs, hor2, hk8⟩ := kept_sync hk7
          have HK7 := hid hk7; have Hs := hid hs; have HK8 := hid hk8
          clear hk7 hs hk8
          by_cases h2 : k = 2
          · have h2' : ((k : Int) == 2) = true := by simp [h2]
            clear h2
            rcases hor2 with rfl | rfl
            · go_wp2_with (first
                        | ((go_at_call 27; (with_reducible refine (put_W (HG.out.up (by (repeat (first | (with_reducible exact Up.refl _) | (with_reducible assumption) | (with_reducible refine Up.alloc ?_ _) | (with_reducible refine Up.drew ?_) | ((with_reducible refine Up.set ?_ ?_ _); rotate_left; focus (first | omega | (simp; done) | (simp; omega))) | (with_reducible refine Up.drewN ?_ _) | (with_reducible refine Up.call ?_ (by with_reducible assumption)))))) Hp.out HQ.out HP2.out).mono ?_); rintro e w5 ⟨v5, rfl, hL5⟩ <;> (have hb5 := hL5.since; have HL5 := hid hL5; clear hL5)) <;> (have hle := Up.le hb5; (try simp only [World.size_alloc, World.size_setCell, World.size_drew, World.heap_drewN] at hle); clear hle))
                        | ((go_at_call 28; (with_reducible refine (sync_W (HL5.out.up (by (repeat (first | (with_reducible exact Up.refl _) | (with_reducible assumption) | (with_reducible refine Up.alloc ?_ _) | (with_reducible refine Up.drew ?_) | ((with_reducible refine Up.set ?_ ?_ _); rotate_left; focus (first | omega | (simp; done) | (simp; omega))) | (with_reducible refine Up.drewN ?_ _) | (with_reducible refine Up.call ?_ (by with_reducible assumption)))))) Hs.out).mono ?_); rintro e w6 ⟨v6, rfl, hL6⟩ <;> (have hb6 := hL6.since; have HL6 := hid hL6; clear hL6)) <;> (have hle := Up.le hb6; (try simp only [World.size_alloc, World.size_setCell, World.size_drew, World.heap_drewN] at hle); clear hle)))
              go_meet
              exact ⟨k + 1, v6, l2, HJ.out, HK8.out, HL6.out⟩
            · go_wp2_with (first
                        | ((go_at_call 27; (with_reducible refine (put_W (HG.out.up (by (repeat (first | (with_reducible exact Up.refl _) | (with_reducible assumption) | (with_reducible refine Up.alloc ?_ _) | (with_reducible refine Up.drew ?_) | ((with_reducible refine Up.set ?_ ?_ _); rotate_left; focus (first | omega | (simp; done) | (simp; omega))) | (with_reducible refine Up.drewN ?_ _) | (with_reducible refine Up.call ?_ (by with_reducible assumption)))))) Hp.out HQ.out HP2.out).mono ?_); rintro e w5 ⟨v5, rfl, hL5⟩ <;> (have hb5 := hL5.since; have HL5 := hid hL5; clear hL5)) <;> (have hle := Up.le hb5; (try simp only [World.size_alloc, World.size_setCell, World.size_drew, World.heap_drewN] at hle); clear hle))
                        | ((go_at_call 28; (with_reducible refine (sync_W (HL5.out.up (by (repeat (first | (with_reducible exact Up.refl _) | (with_reducible assumption) | (with_reducible refine Up.alloc ?_ _) | (with_reducible refine Up.drew ?_) | ((with_reducible refine Up.set ?_ ?_ _); rotate_left; focus (first | omega | (simp; done) | (simp; omega))) | (with_reducible refine Up.drewN ?_ _) | (with_reducible refine Up.call ?_ (by with_reducible assumption)))))) Hs.out).mono ?_); rintro e w6 ⟨v6, rfl, hL6⟩ <;> (have hb6 := hL6.since; have HL6 := hid hL6; clear hL6)) <;> (have hle := Up.le hb6; (try simp only [World.size_alloc, World.size_setCell, World.size_drew, World.heap_drewN] at hle); clear hle)))
              go_roundw
              case rel => exact ⟨k + 1, v6, l2, by go_num, HJ.out, HK8.out, HL6.out⟩
              case measure => have := HJ.out; simp [intOf]; omega
          · have h2' : ((k : Int) == 2) = false := beq_eq_false_iff_ne.2 (by omega)
            clear h2 hor2
            go_wp2_with (first
                        | ((go_at_call 27; (with_reducible refine (put_W (HG.out.up (by (repeat (first | (with_reducible exact Up.refl _) | (with_reducible assumption) | (with_reducible refine Up.alloc ?_ _) | (with_reducible refine Up.drew ?_) | ((with_reducible refine Up.set ?_ ?_ _); rotate_left; focus (first | omega | (simp; done) | (simp; omega))) | (with_reducible refine Up.drewN ?_ _) | (with_reducible refine Up.call ?_ (by with_reducible assumption)))))) Hp.out HQ.out HP2.out).mono ?_); rintro e w5 ⟨v5, rfl, hL5⟩ <;> (have hb5 := hL5.since; have HL5 := hid hL5; clear hL5)) <;> (have hle := Up.le hb5; (try simp only [World.size_alloc, World.size_setCell, World.size_drew, World.heap_drewN] at hle); clear hle)))
            go_roundw
            case rel => exact ⟨k + 1, v5, l', by go_num, HJ.out, HK7.out, HL5.out⟩
            case measure => have := HJ.out; simp [intOf]; omega
      · have hkl : ¬ (k : Int) < (L.length : Int) := by omega
        have hkd : decide ((k : Int) < (L.length : Int)) = false := decide_eq_false hkl
        clear hlt
        go_wp2
        go_meet
        exact ⟨k, v, l, hk, HK.out, HG.out⟩
  case rest =>
    obtain ⟨k, v, l, hk, HK, HG⟩ := hcut
    have hUc := HG.out.since
    obtain ⟨m, hm, hall⟩ := kept_crash HK.out hk kp
    obtain ⟨M, hM, hml, hm3, hme, hmc⟩ := kept_parts HT.out hm
    have HM := hid (show RdR RdS w2 (some ⟨b0, o0, none⟩) M by rw [hM]; exact HR2.out.takeS m)
    rw [← hM] at hall
    have HA := hid hall; have HM3 := hid hm3; have HME := hid hme; have HML := hid hml
    have hmd : decide ((L.length : Int) < (M.length : Int)) = false := decide_eq_false (by omega)
    have hmi : (M.length : Int) ≤ (L.length : Int) := by omega
    have hmn : ¬ (L.length : Int) < (M.length : Int) := by omega
    have hmc1 : (M.length : Int) ≤ (c2 : Int) := by omega
    have hmc2 : M.length ≤ c2 := by omega
    clear hM hall hm hm3 hme HL3 HL4 hb3 hb4
    rcases hmc with ⟨rfl, hh⟩ | ⟨hmp, H, hh, hin, hst⟩
    · have HH := hid (show hullF (crashF l kp).all = .error 5 by rw [HA.out]; exact hh)
      clear hh
      go_wp2_with (first
                        | ((go_at_call 29; (with_reducible refine (crash_W kp (HG.out.up (by (repeat (first | (with_reducible exact Up.refl _) | (with_reducible assumption) | (with_reducible refine Up.alloc ?_ _) | (with_reducible refine Up.drew ?_) | ((with_reducible refine Up.set ?_ ?_ _); rotate_left; focus (first | omega | (simp; done) | (simp; omega))) | (with_reducible refine Up.drewN ?_ _) | (with_reducible refine Up.call ?_ (by with_reducible assumption)))))) Hk.out).mono ?_); rintro e w7 ⟨v7, rfl, hL7⟩ <;> (have hb7 := hL7.since; have HL7 := hid hL7; clear hL7)) <;> (have hle := Up.le hb7; (try simp only [World.size_alloc, World.size_setCell, World.size_drew, World.heap_drewN] at hle); clear hle))
                        | ((go_at_call 30; (with_reducible refine (all_any g v7 (crashF l kp) _ (HL7.out.log.up (by (repeat (first | (with_reducible exact Up.refl _) | (with_reducible assumption) | (with_reducible refine Up.alloc ?_ _) | (with_reducible refine Up.drew ?_) | ((with_reducible refine Up.set ?_ ?_ _); rotate_left; focus (first | omega | (simp; done) | (simp; omega))) | (with_reducible refine Up.drewN ?_ _) | (with_reducible refine Up.call ?_ (by with_reducible assumption))))))).mono ?_); rintro e w8 ⟨x8, v8, hx8, rfl, hv8, hb8⟩ <;> (subst hx8; obtain ⟨A8, c8, rfl, hr8, hc8⟩ := hv8; rw [HA.out]; simp only [List.length_nil])) <;> (have hle := Up.le hb8; (try simp only [World.size_alloc, World.size_setCell, World.size_drew, World.heap_drewN] at hle); clear hle))
                        | ((go_at_call 31; (with_reducible refine (sboxes_nil A8 (some ⟨b0, o0, none⟩) c8 c2 _).mono ?_); rintro e w9 ⟨rfl, hb9⟩) <;> (have hle := Up.le hb9; (try simp only [World.size_alloc, World.size_setCell, World.size_drew, World.heap_drewN] at hle); clear hle))
                        | ((go_at_call 32; (with_reducible refine (hull_any g v7 (crashF l kp) _ (HL7.out.log.up (by (repeat (first | (with_reducible exact Up.refl _) | (with_reducible assumption) | (with_reducible refine Up.alloc ?_ _) | (with_reducible refine Up.drew ?_) | ((with_reducible refine Up.set ?_ ?_ _); rotate_left; focus (first | omega | (simp; done) | (simp; omega))) | (with_reducible refine Up.drewN ?_ _) | (with_reducible refine Up.call ?_ (by with_reducible assumption))))))).mono ?_); rintro e w10 ⟨x10, v10, hx10, rfl, hv10, hb10⟩ <;> (rw [HH.out] at hx10; subst hx10; obtain rfl := boxR_error hv10; clear hv10)) <;> (have hle := Up.le hb10; (try simp only [World.size_alloc, World.size_setCell, World.size_drew, World.heap_drewN] at hle); clear hle))
                        | ((go_at_call 12; (with_reducible refine (serr_self 5 _ (HD.out.up (by (repeat (first | (with_reducible exact Up.refl _) | (with_reducible assumption) | (with_reducible refine Up.alloc ?_ _) | (with_reducible refine Up.drew ?_) | ((with_reducible refine Up.set ?_ ?_ _); rotate_left; focus (first | omega | (simp; done) | (simp; omega))) | (with_reducible refine Up.drewN ?_ _) | (with_reducible refine Up.call ?_ (by with_reducible assumption))))))).mono ?_); rintro e w11 ⟨rfl, hb11⟩) <;> (have hle := Up.le hb11; (try simp only [World.size_alloc, World.size_setCell, World.size_drew, World.heap_drewN] at hle); clear hle)))
      go_ret
      exact LawEnd.mk (by first | rfl | (simp; done)) (by (repeat (first | (with_reducible exact Up.refl _) | (with_reducible assumption) | (with_reducible refine Up.alloc ?_ _) | (with_reducible refine Up.drew ?_) | ((with_reducible refine Up.set ?_ ?_ _); rotate_left; focus (first | omega | (simp; done) | (simp; omega))) | (with_reducible refine Up.drewN ?_ _) | (with_reducible refine Up.call ?_ (by with_reducible assumption)))))
    · have HH := hid (show hullF (crashF l kp).all = .ok H by rw [HA.out]; exact hh)
      have HIN := hid hin; have HST := hid hst; have HMP := hid hmp
      have hmz : ((M.length : Int) == 0) = false := beq_eq_false_iff_ne.2 (by omega)
      clear hh hin hst
      go_upto_region 23 with (first
        | ((go_at_call 29; (with_reducible refine (crash_W kp (HG.out.up (by (repeat (first | (with_reducible exact Up.refl _) | (with_reducible assumption) | (with_reducible refine Up.alloc ?_ _) | (with_reducible refine Up.drew ?_) | ((with_reducible refine Up.set ?_ ?_ _); rotate_left; focus (first | omega | (simp; done) | (simp; omega))) | (with_reducible refine Up.drewN ?_ _) | (with_reducible refine Up.call ?_ (by with_reducible assumption)))))) Hk.out).mono ?_); rintro e w7 ⟨v7, rfl, hL7⟩ <;> (have hb7 := hL7.since; have HL7 := hid hL7; clear hL7)) <;> (have hle := Up.le hb7; (try simp only [World.size_alloc, World.size_setCell, World.size_drew, World.heap_drewN] at hle); clear hle))
        | ((go_at_call 30; (with_reducible refine (all_any g v7 (crashF l kp) _ (HL7.out.log.up (by (repeat (first | (with_reducible exact Up.refl _) | (with_reducible assumption) | (with_reducible refine Up.alloc ?_ _) | (with_reducible refine Up.drew ?_) | ((with_reducible refine Up.set ?_ ?_ _); rotate_left; focus (first | omega | (simp; done) | (simp; omega))) | (with_reducible refine Up.drewN ?_ _) | (with_reducible refine Up.call ?_ (by with_reducible assumption))))))).mono ?_); rintro e w8 ⟨x8, v8, hx8, rfl, hv8, hb8⟩ <;> (subst hx8; obtain ⟨A8, c8, rfl, hr8, hc8⟩ := hv8; rw [HA.out] at hr8 hc8 ⊢; obtain ⟨b8, o8, rfl, lb8, cc8⟩ := hr8.at HMP.out; have HR8 := hid hr8; have LB8 := hid lb8; have CC8 := hid cc8; clear hr8 lb8 cc8)) <;> (have hle := Up.le hb8; (try simp only [World.size_alloc, World.size_setCell, World.size_drew, World.heap_drewN] at hle); clear hle))
        | ((go_at_call 31; (with_reducible refine (sboxes_self (some ⟨b8, o8, none⟩) (some ⟨b0, o0, none⟩) M c8 c2 _ (RdR.upS HR8.out (by (repeat (first | (with_reducible exact Up.refl _) | (with_reducible assumption) | (with_reducible refine Up.alloc ?_ _) | (with_reducible refine Up.drew ?_) | ((with_reducible refine Up.set ?_ ?_ _); rotate_left; focus (first | omega | (simp; done) | (simp; omega))) | (with_reducible refine Up.drewN ?_ _) | (with_reducible refine Up.call ?_ (by with_reducible assumption)))))) (RdR.upS HM.out (by (repeat (first | (with_reducible exact Up.refl _) | (with_reducible assumption) | (with_reducible refine Up.alloc ?_ _) | (with_reducible refine Up.drew ?_) | ((with_reducible refine Up.set ?_ ?_ _); rotate_left; focus (first | omega | (simp; done) | (simp; omega))) | (with_reducible refine Up.drewN ?_ _) | (with_reducible refine Up.call ?_ (by with_reducible assumption)))))) (by have := HML.out; have := HL20.out; omega) HME.out).mono ?_); rintro e w9 ⟨rfl, hb9⟩) <;> (have hle := Up.le hb9; (try simp only [World.size_alloc, World.size_setCell, World.size_drew, World.heap_drewN] at hle); clear hle))
        | ((go_at_call 32; (with_reducible refine (hull_any g v7 (crashF l kp) _ (HL7.out.log.up (by (repeat (first | (with_reducible exact Up.refl _) | (with_reducible assumption) | (with_reducible refine Up.alloc ?_ _) | (with_reducible refine Up.drew ?_) | ((with_reducible refine Up.set ?_ ?_ _); rotate_left; focus (first | omega | (simp; done) | (simp; omega))) | (with_reducible refine Up.drewN ?_ _) | (with_reducible refine Up.call ?_ (by with_reducible assumption))))))).mono ?_); rintro e w10 ⟨x10, v10, hx10, rfl, hv10, hb10⟩ <;> (rw [HH.out] at hx10; subst hx10; obtain ⟨A10, c10, rfl, hr10, hc10, hn10⟩ := boxR_ok hv10; have HR10 := hid hr10; clear hv10 hr10 hn10)) <;> (have hle := Up.le hb10; (try simp only [World.size_alloc, World.size_setCell, World.size_drew, World.heap_drewN] at hle); clear hle)))
      have HU8 := hid (show Up w8 w10 by clear hUc; (repeat (first | (with_reducible exact Up.refl _) | (with_reducible assumption) | (with_reducible refine Up.alloc ?_ _) | (with_reducible refine Up.drew ?_) | ((with_reducible refine Up.set ?_ ?_ _); rotate_left; focus (first | omega | (simp; done) | (simp; omega))) | (with_reducible refine Up.drewN ?_ _) | (with_reducible refine Up.call ?_ (by with_reducible assumption)))))
      go_upto_block 2 with fail
      have HUW := hid (show Up w2 w10 by (repeat (first | (with_reducible exact Up.refl _) | (with_reducible assumption) | (with_reducible refine Up.alloc ?_ _) | (with_reducible refine Up.drew ?_) | ((with_reducible refine Up.set ?_ ?_ _); rotate_left; focus (first | omega | (simp; done) | (simp; omega))) | (with_reducible refine Up.drewN ?_ _) | (with_reducible refine Up.call ?_ (by with_reducible assumption)))))
      obtain ⟨wp, hwp⟩ : ∃ x, x = w10 := ⟨_, rfl⟩
      go_cut [] (fun wx => Up w10 wx)
      case first =>
        as_aux_lemma =>
        go_wp2_with fail
        go_loopw [18, 19, 20] (fun i _ _ wr => ∃ (j : Nat), i = .int .i64 j ∧ j ≤ M.length ∧ Up w10 wr) (fun i _ _ _ => M.length - (intOf i).toNat)
        case atStart => exact ⟨0, rfl, by omega, Up.refl _⟩
        case round =>
          obtain ⟨j, rfl, hj, hU⟩ := hrel
          have hj0 : (0 : Int) ≤ (j : Int) := by omega
          have h20 : M.length ≤ 20 := Nat.le_trans HML.out HL20.out
          by_cases hlt : j < M.length
          · obtain ⟨A', c', q1, q2, q3⟩ := CC8.out j hlt
            have qj := ((bcell (HU8.out.call hU)).1 _ _ LB8.out).trans q1
            have hjl : (j : Int) < (M.length : Int) := by omega
            have hjd : decide ((j : Int) < (M.length : Int)) = true := decide_eq_true hjl
            have Hin := hid (HIN.out j hlt)
            have HQ := hid (q3.up (HU8.out.call hU)); have HJ := hid hlt
            generalize M[j]?.getD [] = y at *
            clear q1 q2 q3 hlt
            go_wp2_with (first
                        | ((go_at_call 33; (with_reducible refine (within_any A' A10 y H c' c10 _ (HQ.out.up (by (repeat (first | (with_reducible exact Up.refl _) | (with_reducible assumption) | (with_reducible refine Up.alloc ?_ _) | (with_reducible refine Up.drew ?_) | ((with_reducible refine Up.set ?_ ?_ _); rotate_left; focus (first | omega | (simp; done) | (simp; omega))) | (with_reducible refine Up.drewN ?_ _) | (with_reducible refine Up.call ?_ (by with_reducible assumption)))))) (HR10.out.up (by (repeat (first | (with_reducible exact Up.refl _) | (with_reducible assumption) | (with_reducible refine Up.alloc ?_ _) | (with_reducible refine Up.drew ?_) | ((with_reducible refine Up.set ?_ ?_ _); rotate_left; focus (first | omega | (simp; done) | (simp; omega))) | (with_reducible refine Up.drewN ?_ _) | (with_reducible refine Up.call ?_ (by with_reducible assumption))))))).mono ?_); rintro e w11 ⟨x11, hx11, rfl, hb11⟩ <;> (rw [Hin.out] at hx11; subst hx11)) <;> (have hle := Up.le hb11; (try simp only [World.size_alloc, World.size_setCell, World.size_drew, World.heap_drewN] at hle); clear hle)))
            go_roundw
            case rel => exact ⟨j + 1, by go_num, HJ.out, by (repeat (first | (with_reducible exact Up.refl _) | (with_reducible assumption) | (with_reducible refine Up.alloc ?_ _) | (with_reducible refine Up.drew ?_) | ((with_reducible refine Up.set ?_ ?_ _); rotate_left; focus (first | omega | (simp; done) | (simp; omega))) | (with_reducible refine Up.drewN ?_ _) | (with_reducible refine Up.call ?_ (by with_reducible assumption))))⟩
            case measure => have := HJ.out; simp [intOf]; omega
          · have hjl : ¬ (j : Int) < (M.length : Int) := by omega
            have hjd : decide ((j : Int) < (M.length : Int)) = false := decide_eq_false hjl
            clear hlt
            go_wp2
            go_meet
            exact hU
      case rest =>
        have hU := hcut
        obtain ⟨A', c', q1, q2, q3⟩ := CC8.out (M.length - 1) (by omega)
        have hU8 := HU8.out.call hU
        have hUw := HUW.out.call hU
        have qj := ((bcell hU8).1 _ _ LB8.out).trans q1
        have HQ := hid (q3.up hU8)
        have HST2 := hid HST.out
        have e0 := ((bcell hUw).1 _ _ (World.block_lt_of_cell? _ _ M0.out)).trans M0.out
        have e1 := ((bcell hUw).1 _ _ (World.block_lt_of_cell? _ _ M1.out)).trans M1.out
        have hi0 : (0 : Int) ≤ (M.length : Int) - 1 := by omega
        have hi1 : (M.length : Int) - 1 < (M.length : Int) := by omega
        have h20 : M.length ≤ 20 := Nat.le_trans HML.out HL20.out
        have hmp2 := HMP.out
        have hwr : IntKind.i64.wrap ((M.length : Int) - 1) = ((M.length - 1 : Nat) : Int) := by rw [wrap_midl (by omega) (by omega)]; omega
        have hi2 : M.length - 1 < M.length := by omega
        have hst := HST.out
        have HUC := hid hU
        have Rs2 := hid (Rs.out.up (HU2.out.call hUw))
        have HR2c := hid hUw
        generalize M[M.length - 1]?.getD [] = z at *
        have hlc : M.length = L.length ∨ M.length < L.length := by have := HML.out; omega
        clear q1 q2 q3 HST HST2 hwp HL7 HG HK hb7 hb8 hb9 hb10
        cases hof : ofF s z with
        | error e =>
          have HOF := hid hof
          clear hof hst hlc
          go_upto_region 29 with fail
          go_cut [21, 22] (fun y e2 wx => e2 = .iface 74 (.int .i64 (e : Nat)) ∧ Up wc wx)
          case first =>
            go_region_law (go_simp; first
              | ((go_at_call 34; (with_reducible refine (of_any _ _ _ s z _ _ _ _ (Rs2.out.up (by (repeat (first | (with_reducible exact Up.refl _) | (with_reducible assumption) | (with_reducible refine Up.alloc ?_ _) | (with_reducible refine Up.drew ?_) | ((with_reducible refine Up.set ?_ ?_ _); rotate_left; focus (first | omega | (simp; done) | (simp; omega))) | (with_reducible refine Up.drewN ?_ _) | (with_reducible refine Up.call ?_ (by with_reducible assumption)))))) (HQ.out.up (by (repeat (first | (with_reducible exact Up.refl _) | (with_reducible assumption) | (with_reducible refine Up.alloc ?_ _) | (with_reducible refine Up.drew ?_) | ((with_reducible refine Up.set ?_ ?_ _); rotate_left; focus (first | omega | (simp; done) | (simp; omega))) | (with_reducible refine Up.drewN ?_ _) | (with_reducible refine Up.call ?_ (by with_reducible assumption))))))).mono ?_); rintro e w12 ⟨x12, v12, hx12, rfl, hv12, hb12⟩ <;> (rw [HOF.out] at hx12; subst hx12; obtain rfl := slNE_error hv12; clear hv12)) <;> (have hle := Up.le hb12; (try simp only [World.size_alloc, World.size_setCell, World.size_drew, World.heap_drewN] at hle); clear hle)))
            all_goals go_wp2
            all_goals
              go_meet
              exact ⟨rfl, by (repeat (first | (with_reducible exact Up.refl _) | (with_reducible assumption) | (with_reducible refine Up.alloc ?_ _) | (with_reducible refine Up.drew ?_) | ((with_reducible refine Up.set ?_ ?_ _); rotate_left; focus (first | omega | (simp; done) | (simp; omega))) | (with_reducible refine Up.drewN ?_ _) | (with_reducible refine Up.call ?_ (by with_reducible assumption))))⟩
          case rest =>
            obtain ⟨rfl, hU9⟩ := hcut
            go_wp2
            go_ret
            exact LawEnd.mk (by first | rfl | (simp; done)) (by (repeat (first | (with_reducible exact Up.refl _) | (with_reducible assumption) | (with_reducible refine Up.alloc ?_ _) | (with_reducible refine Up.drew ?_) | ((with_reducible refine Up.set ?_ ?_ _); rotate_left; focus (first | omega | (simp; done) | (simp; omega))) | (with_reducible refine Up.drewN ?_ _) | (with_reducible refine Up.call ?_ (by with_reducible assumption)))))
        | ok y =>
          have HOF := hid hof
          clear hof
          go_upto_region 29 with fail
          go_cut [21, 22] (fun y2 e2 wx => ∃ A c, y2 = .slice A y.length c ∧ e2 = .nilIface ∧ Hid (RdS wx A y) ∧ Up wc wx)
          case first =>
            go_region_law (go_simp; first
              | ((go_at_call 34; (with_reducible refine (of_any _ _ _ s z _ _ _ _ (Rs2.out.up (by (repeat (first | (with_reducible exact Up.refl _) | (with_reducible assumption) | (with_reducible refine Up.alloc ?_ _) | (with_reducible refine Up.drew ?_) | ((with_reducible refine Up.set ?_ ?_ _); rotate_left; focus (first | omega | (simp; done) | (simp; omega))) | (with_reducible refine Up.drewN ?_ _) | (with_reducible refine Up.call ?_ (by with_reducible assumption)))))) (HQ.out.up (by (repeat (first | (with_reducible exact Up.refl _) | (with_reducible assumption) | (with_reducible refine Up.alloc ?_ _) | (with_reducible refine Up.drew ?_) | ((with_reducible refine Up.set ?_ ?_ _); rotate_left; focus (first | omega | (simp; done) | (simp; omega))) | (with_reducible refine Up.drewN ?_ _) | (with_reducible refine Up.call ?_ (by with_reducible assumption))))))).mono ?_); rintro e w12 ⟨x12, v12, hx12, rfl, hv12, hb12⟩ <;> (rw [HOF.out] at hx12; subst hx12; obtain ⟨A12, c12, rfl, hr12, hc12, hn12⟩ := slNE_ok hv12; have HR12 := hid hr12; clear hv12 hr12 hn12)) <;> (have hle := Up.le hb12; (try simp only [World.size_alloc, World.size_setCell, World.size_drew, World.heap_drewN] at hle); clear hle)))
            all_goals go_wp2
            all_goals
              go_meet
              exact ⟨A12, c12, rfl, rfl, HR12.out.up (by (repeat (first | (with_reducible exact Up.refl _) | (with_reducible assumption) | (with_reducible refine Up.alloc ?_ _) | (with_reducible refine Up.drew ?_) | ((with_reducible refine Up.set ?_ ?_ _); rotate_left; focus (first | omega | (simp; done) | (simp; omega))) | (with_reducible refine Up.drewN ?_ _) | (with_reducible refine Up.call ?_ (by with_reducible assumption))))), by (repeat (first | (with_reducible exact Up.refl _) | (with_reducible assumption) | (with_reducible refine Up.alloc ?_ _) | (with_reducible refine Up.drew ?_) | ((with_reducible refine Up.set ?_ ?_ _); rotate_left; focus (first | omega | (simp; done) | (simp; omega))) | (with_reducible refine Up.drewN ?_ _) | (with_reducible refine Up.call ?_ (by with_reducible assumption))))⟩
          case rest =>
            obtain ⟨A12, c12, rfl, rfl, HR12, hU9⟩ := hcut
            rcases hlc with hlc | hlc
            · have hld : ((M.length : Int) == (L.length : Int)) = true := by simp [hlc]
              clear hlc hst
              go_wp2
              go_ret
              exact LawEnd.mk (by first | rfl | (simp; done)) (by (repeat (first | (with_reducible exact Up.refl _) | (with_reducible assumption) | (with_reducible refine Up.alloc ?_ _) | (with_reducible refine Up.drew ?_) | ((with_reducible refine Up.set ?_ ?_ _); rotate_left; focus (first | omega | (simp; done) | (simp; omega))) | (with_reducible refine Up.drewN ?_ _) | (with_reducible refine Up.call ?_ (by with_reducible assumption)))))
            · have hld : ((M.length : Int) == (L.length : Int)) = false := beq_eq_false_iff_ne.2 (by omega)
              have hyl := hst hlc
              rw [HOF.out] at hyl
              injection hyl with hyl
              obtain ⟨A2', c2', r1, r2, r3⟩ := CC0.out M.length hlc
              have hyb := (HT.out.bx M.length hlc).1.few
              rw [← hyl] at r1 r3 hyb
              have rj := ((bcell (HR2c.out.call hU9)).1 _ _ LB0.out).trans r1
              have HQ2 := hid (r3.up (HR2c.out.call hU9))
              have hll : (M.length : Int) < (L.length : Int) := by omega
              have hl0 : (0 : Int) ≤ (M.length : Int) := by omega
              have HYB := hid (show y.length ≤ 9223372036854775807 by omega)
              clear hlc hst hyl r1 r2 r3 hyb
              go_wp2_with (first
                        | ((go_at_call 35; (with_reducible refine (sbox_self A12 A2' y c12 c2' _ (HR12.out.up (by (repeat (first | (with_reducible exact Up.refl _) | (with_reducible assumption) | (with_reducible refine Up.alloc ?_ _) | (with_reducible refine Up.drew ?_) | ((with_reducible refine Up.set ?_ ?_ _); rotate_left; focus (first | omega | (simp; done) | (simp; omega))) | (with_reducible refine Up.drewN ?_ _) | (with_reducible refine Up.call ?_ (by with_reducible assumption)))))) (HQ2.out.up (by (repeat (first | (with_reducible exact Up.refl _) | (with_reducible assumption) | (with_reducible refine Up.alloc ?_ _) | (with_reducible refine Up.drew ?_) | ((with_reducible refine Up.set ?_ ?_ _); rotate_left; focus (first | omega | (simp; done) | (simp; omega))) | (with_reducible refine Up.drewN ?_ _) | (with_reducible refine Up.call ?_ (by with_reducible assumption)))))) HYB.out).mono ?_); rintro e w13 ⟨rfl, hb13⟩) <;> (have hle := Up.le hb13; (try simp only [World.size_alloc, World.size_setCell, World.size_drew, World.heap_drewN] at hle); clear hle)))
              go_ret
              exact LawEnd.mk (by first | rfl | (simp; done)) (by (repeat (first | (with_reducible exact Up.refl _) | (with_reducible assumption) | (with_reducible refine Up.alloc ?_ _) | (with_reducible refine Up.drew ?_) | ((with_reducible refine Up.set ?_ ?_ _); rotate_left; focus (first | omega | (simp; done) | (simp; omega))) | (with_reducible refine Up.drewN ?_ _) | (with_reducible refine Up.call ?_ (by with_reducible assumption)))))
set_option maxRecDepth 100000 in
set_option maxHeartbeats 8000000 in
theorem topKept_walk (As Bs : Option Addr) (s : Sy) (cs es : Nat) (Ab : Option Addr) (b : List Sp) (cb : Nat) (n fl kp : Int) (w : World) (hs : LY w As Bs s cs es) (hb : LS w Ab b cb) (_hn : I64 n) (hf : I64 fl) (hk : I64 kp) (hd : Door4 w) :
    Calls Tryz.prog 7 #[.agg #[.slice As s.next.length cs, .slice Bs s.push.length es], .slice Ab b.length cb, .int .i64 n, .int .i64 fl, .int .i64 kp] w (LawEnd w) := by
  cases hl : runF s b n with
  | error e =>
    have Rs := hid hs.ry; have Rb := hid hb.rd; have HL := hid hl
    clear hs hb _hn hf hk hd hl
    go_enter Tryz.func7, Tryz.ntmps7
    go_wp2_with (first
                        | ((go_at_call 23; (with_reducible refine (top_any _).mono ?_); rintro e w1 ⟨x1, rfl, rfl, hb1⟩ <;> (apply ck hb1 (w.heap.size) 0; (focus (first | (go_simp; done) | (go_simp; rfl))); intro k0; apply ck hb1 (w.heap.size) 1; (focus (first | (go_simp; done) | (go_simp; rfl))); intro k1)) <;> (have hle := Up.le hb1; (try simp only [World.size_alloc, World.size_setCell, World.size_drew, World.heap_drewN] at hle); clear hle))
                        | ((go_at_call 24; (with_reducible refine (run_any _ _ _ s b n _ _ _ _ (Rs.out.up (by (repeat (first | (with_reducible exact Up.refl _) | (with_reducible assumption) | (with_reducible refine Up.alloc ?_ _) | (with_reducible refine Up.drew ?_) | ((with_reducible refine Up.set ?_ ?_ _); rotate_left; focus (first | omega | (simp; done) | (simp; omega))) | (with_reducible refine Up.drewN ?_ _) | (with_reducible refine Up.call ?_ (by with_reducible assumption)))))) (Rb.out.up (by (repeat (first | (with_reducible exact Up.refl _) | (with_reducible assumption) | (with_reducible refine Up.alloc ?_ _) | (with_reducible refine Up.drew ?_) | ((with_reducible refine Up.set ?_ ?_ _); rotate_left; focus (first | omega | (simp; done) | (simp; omega))) | (with_reducible refine Up.drewN ?_ _) | (with_reducible refine Up.call ?_ (by with_reducible assumption))))))).mono ?_); rintro e w2 ⟨x2, v2, hx2, rfl, hv2, hb2⟩ <;> (rw [HL.out] at hx2; subst hx2; obtain rfl := rlNE_error hv2; clear hv2)) <;> (have hle := Up.le hb2; (try simp only [World.size_alloc, World.size_setCell, World.size_drew, World.heap_drewN] at hle); clear hle)))
    go_ret
    refine LawEnd.mk rfl ?_
    (repeat (first | (with_reducible exact Up.refl _) | (with_reducible assumption) | (with_reducible refine Up.alloc ?_ _) | (with_reducible refine Up.drew ?_) | ((with_reducible refine Up.set ?_ ?_ _); rotate_left; focus (first | omega | (simp; done) | (simp; omega))) | (with_reducible refine Up.drewN ?_ _) | (with_reducible refine Up.call ?_ (by with_reducible assumption))))
  | ok L =>
    by_cases h20 : L.length ≤ 20
    · exact topKept_main As Bs s cs es Ab b cb n fl kp w hs.ry hb.rd hf hk hd hl h20
    · obtain ⟨hL1, hL21, hL0⟩ := run_pos hl
      obtain ⟨hB, hbl⟩ := (tube_of hl).bx 0 (by omega)
      rw [hL0] at hB
      have HN1 := hid (show 1 ≤ b.length from hB.pos); have HN3 := hid hB.few
      have Rs := hid hs.ry; have Rb := hid hb.rd; have HL := hid hl
      have hd20 : decide ((20 : Int) < (L.length : Int)) = true := decide_eq_true (by omega)
      clear hs hb _hn hf hk hd hl hL1 hL21 hL0 hB hbl h20
      go_enter Tryz.func7, Tryz.ntmps7
      go_wp2_with (first
                        | ((go_at_call 23; (with_reducible refine (top_any _).mono ?_); rintro e w1 ⟨x1, rfl, rfl, hb1⟩ <;> (apply ck hb1 (w.heap.size) 0; (focus (first | (go_simp; done) | (go_simp; rfl))); intro k0; apply ck hb1 (w.heap.size) 1; (focus (first | (go_simp; done) | (go_simp; rfl))); intro k1)) <;> (have hle := Up.le hb1; (try simp only [World.size_alloc, World.size_setCell, World.size_drew, World.heap_drewN] at hle); clear hle))
                        | ((go_at_call 24; (with_reducible refine (run_any _ _ _ s b n _ _ _ _ (Rs.out.up (by (repeat (first | (with_reducible exact Up.refl _) | (with_reducible assumption) | (with_reducible refine Up.alloc ?_ _) | (with_reducible refine Up.drew ?_) | ((with_reducible refine Up.set ?_ ?_ _); rotate_left; focus (first | omega | (simp; done) | (simp; omega))) | (with_reducible refine Up.drewN ?_ _) | (with_reducible refine Up.call ?_ (by with_reducible assumption)))))) (Rb.out.up (by (repeat (first | (with_reducible exact Up.refl _) | (with_reducible assumption) | (with_reducible refine Up.alloc ?_ _) | (with_reducible refine Up.drew ?_) | ((with_reducible refine Up.set ?_ ?_ _); rotate_left; focus (first | omega | (simp; done) | (simp; omega))) | (with_reducible refine Up.drewN ?_ _) | (with_reducible refine Up.call ?_ (by with_reducible assumption))))))).mono ?_); rintro e w2 ⟨x2, v2, hx2, rfl, hv2, hb2⟩ <;> (rw [HL.out] at hx2; subst hx2; obtain ⟨A2, c2, rfl, -, -⟩ := rlNE_ok hv2; clear hv2)) <;> (have hle := Up.le hb2; (try simp only [World.size_alloc, World.size_setCell, World.size_drew, World.heap_drewN] at hle); clear hle))
                        | ((go_at_call 25; (with_reducible refine (new_goodW b.length _ HN1.out HN3.out).mono ?_); rintro e w3 ⟨g, rfl, hL3⟩ <;> (have hb3 := hL3.since; clear hL3)) <;> (have hle := Up.le hb3; (try simp only [World.size_alloc, World.size_setCell, World.size_drew, World.heap_drewN] at hle); clear hle)))
      go_ret
      exact LawEnd.mk (by first | rfl | (simp; done)) (by (repeat (first | (with_reducible exact Up.refl _) | (with_reducible assumption) | (with_reducible refine Up.alloc ?_ _) | (with_reducible refine Up.drew ?_) | ((with_reducible refine Up.set ?_ ?_ _); rotate_left; focus (first | omega | (simp; done) | (simp; omega))) | (with_reducible refine Up.drewN ?_ _) | (with_reducible refine Up.call ?_ (by with_reducible assumption)))))

set_option maxRecDepth 100000 in
theorem topKept_lifted (os : Os) (started : os.Started) (H : Type) (enc : TypeId × Value → H) :
    ReturnsInHanded {} Tryz.checked os 7 .any (fun w args => (Rows.topKeptSpec.pre enc Tryz.prog Tryz.f7 [] false w args ∧ laidMetH Tryz.prog laidL4 w) ∧ sizedMet enc Tryz.prog Tryz.f7 (OpenSpec.ofChange Rows.topKeptSpec) false w args) (Rows.topKeptSpec.post enc Tryz.prog Tryz.f7 false true false false) := by
  refine returnsInHanded_of_change_and (C := Tryz.checked) (X := fun w _ => laidMetH Tryz.prog laidL4 w) (fun _ _ _ hh h => h.of_heap hh) Tryz.own started (by kernel_rfl) Tryz.func7
    (ChangeSpec.witness_at (enc := enc) (C := Tryz.checked) (os := os) (X := fun w _ => laidMetH Tryz.prog laidL4 w) false (laidWorld4 os) #[.agg #[.slice none 0 0, .slice none 0 0], .slice none 0 0, .int .i64 0, .int .i64 0, .int .i64 0] 8 rfl (by kernel_rfl) (by kernel_rfl) (by kernel_rfl) (by kernel_rfl) (by kernel_rfl) (laidWorld4_met os _)) ?_
  intro W base args ds gs before hval0 hW _ _ hL _
  have hdoor := door4_of_laid hL
  have hval : ∀ (j : Nat) t v, Tryz.f7.params[j]? = some t → args[j]? = some v → Value.okWide Tryz.prog W .any base t v := hval0
  have hW' := hW
  obtain ⟨p, q, hA0, hV, rfl, hfz, hnd⟩ := hW
  have hA : DataW.TrodAll enc Tryz.prog W 0 (fun _ => true) true Tryz.f7.params.toList args.toList ds p := hA0
  rw [Tryz.params7] at hA hval
  obtain ⟨v0, v1, v2, v3, v4, d0, d1, d2, d3, d4, p0, p1, p2, p3, p4, rfl, rfl, rfl, h0, h1, h2, h3, h4⟩ := trodAll_5 hA
  obtain ⟨rfl, rfl⟩ := trodVars_none hV
  obtain ⟨A0, B0, s0, c0, e0, rfl, w0⟩ := open_sys (hval 0 51 _ rfl rfl) h0
  obtain ⟨A1, b1, c1, rfl, w1⟩ := open_slist (ti := 3) Tryz.underlying49 Tryz.underlying24 Tryz.cellsSpan rfl rfl rfl rfl Tryz.underlying3 Tryz.cellsInt (hval 1 49 _ rfl rfl) h1
  obtain ⟨n2, rfl, w2⟩ := open_i64 Tryz.underlying3 (hval 2 3 _ rfl rfl) h2
  obtain ⟨n3, rfl, w3⟩ := open_i64 Tryz.underlying3 (hval 3 3 _ rfl rfl) h3
  obtain ⟨n4, rfl, w4⟩ := open_i64 Tryz.underlying3 (hval 4 3 _ rfl rfl) h4
  clear hA0 hval0
  refine (topKept_walk A0 B0 s0 c0 e0 A1 b1 c1 n2 n3 n4 W w0 w1 w2 w3 w4 hdoor).mono fun e W' ⟨he, hu⟩ => ?_
  subst he
  exact ⟨_, rfl, law_post Tryz.laidOut rfl rfl Tryz.underlying4 (fun t ht => by simp [Tryz.params7] at ht; (try rcases ht with rfl | rfl | rfl); all_goals (first | (subst ht; exact ⟨by kernel_rfl, of_decide_eq_true (by kernel_rfl)⟩) | exact ⟨by kernel_rfl, of_decide_eq_true (by kernel_rfl)⟩)) hW' rfl rfl rfl hu⟩
theorem topKept_k1 : (Rows.topKeptRow.inPlace == Tryz.pinned.checked.prog.inPlace 7) = true := by kernel_rfl
theorem topKept_k2 : (Rows.topKeptRow.unfollowed == Tryz.pinned.checked.prog.unfollowed 7) = true := by kernel_rfl
theorem topKept_k3 : (Rows.topKeptRow.recurses == Tryz.pinned.checked.prog.recurses 7) = true := by kernel_rfl
theorem topKept_k4 : (Rows.topKeptRow.named == Tryz.pinned.checked.prog.varsNamed 7) = true := by kernel_rfl
theorem topKept_facts : joinedFacts Tryz.pinned.checked.prog 7 Tryz.f7 Rows.topKeptSpec Rows.topKeptRow = true :=
  joined_of _ _ _ _ _ Tryz.g1 Tryz.g2 Tryz.g3 Tryz.g4 Tryz.g5 Tryz.g6 Tryz.g7 Tryz.g8 Tryz.g9 topKept_k1 topKept_k2 topKept_k3 topKept_k4 (by kernel_rfl)
theorem topKept_bare : Rows.TopKeptSaid :=
  OpenClaim.holds_of_wide 7 Tryz.f7 rfl rfl rfl rfl rfl rfl rfl ⟨rfl, rfl, rfl, rfl, rfl⟩ rfl rfl rfl rfl rfl (by kernel_rfl) Tryz.func7 topKept_facts
    (of_decide_eq_true (by kernel_rfl)) (by unfold Func.isWrapper; rw [if_neg (by decide +kernel)]; exact ⟨rfl, rfl⟩)
    (fun os started H enc _ => topKept_lifted os started H enc)
theorem topKept_holds : Rows.TopKeptCardSaid :=
  Claim7.holds_tied_plain_at .later [] [.data, .data, .data, .handle] true (true, "7541a4b10e5a870dcee6297c57c84f3c6ed26500fe45205808b4d9de7145fdb0") true topKept_bare (fun _ h => by cases h) (by kernel_rfl) (fun _ h => by cases h) topKept_row_tie rfl ⟨rfl, rfl⟩ door_main rfl
    (fun f fn hf hfn => by
      obtain rfl : f = 7 := Option.some.inj ((show Tryz.prog.funcNamed "spanmeadow/spantop.TopKept" = some 7 by kernel_rfl).symm.trans hf) |>.symm
      obtain rfl : fn = Tryz.f7 := (Option.some.inj (Tryz.func7.symm.trans hfn)).symm
      exact ⟨door_looks.symm, fun j t ht => by
        rw [Tryz.params7] at ht
        have hm : t ∈ [51, 49, 3] := by
          have := Array.mem_of_getElem? ht
          simpa using this
        simp only [List.mem_cons, List.not_mem_nil, or_false] at hm
        rcases hm with rfl | rfl | rfl
        · exact (show Tryz.prog.wantsStandIn 51 = false by kernel_rfl)
        · exact (show Tryz.prog.wantsStandIn 49 = false by kernel_rfl)
        · exact (show Tryz.prog.wantsStandIn 3 = false by kernel_rfl)⟩)
    (by kernel_rfl)
#print axioms topKept_holds
end Go.Proofs.YtmjcnpolnknkkaaGreatDoor
