/- Sessions: a line. -/
import Derived.Test.YtmjcnpolnknkkaaGreatDoorPRunk
import Derived.BigGuard
set_option linter.unusedVariables false
set_option linter.unusedSimpArgs false
namespace Go.Proofs.YtmjcnpolnknkkaaGreatDoor
open Go.RowKit

def wPower : List UInt8 := [112, 111, 119, 101, 114]
def line3F (a b c : List UInt8) : Except (Option Nat) (List UInt8) := match opF a with
  | some f => two2F f b c
  | none =>
    if a = wPower then raiseF b c
    else if a = wRange then overLF (fun p x => told2 (mrangeF p x)) b c
    else if a = wNewton then overLF (fun p x => told2 (nrunF p x 20)) b c
    else .error none
def line4F (a b c d : List UInt8) : Except (Option Nat) (List UInt8) := if a = wRoots then overLF (fun p x => rootsF p x d) b c else .error none
def lineF (s : List UInt8) : Except (Option Nat) (List UInt8) := match splitF 32 s with
  | [a, b, c] => line3F a b c
  | [a, b, c, d] => line4F a b c d
  | _ => .error none
theorem line_ways (s : List UInt8) : (∃ a b c, splitF 32 s = [a, b, c] ∧ lineF s = line3F a b c) ∨ (∃ a b c d, splitF 32 s = [a, b, c, d] ∧ lineF s = line4F a b c d) ∨ ((splitF 32 s).length ≠ 3 ∧ (splitF 32 s).length ≠ 4 ∧ lineF s = .error none) := by
  unfold lineF
  match h : splitF 32 s with
  | [] => exact .inr (.inr ⟨by simp, by simp, rfl⟩)
  | [a] => exact .inr (.inr ⟨by simp, by simp, rfl⟩)
  | [a, b] => exact .inr (.inr ⟨by simp, by simp, rfl⟩)
  | [a, b, c] => exact .inl ⟨a, b, c, rfl, rfl⟩
  | [a, b, c, d] => exact .inr (.inl ⟨a, b, c, d, rfl, rfl⟩)
  | a :: b :: c :: d :: e :: r => exact .inr (.inr ⟨by simp, by simp, rfl⟩)
/-- The words in memory. -/
theorem over_any3r (b : Nat) (s0 s1 s2 : List UInt8) (w : World) (c0 : w.cell? ⟨b, 0, none⟩ = some (strV s0)) (c1 : w.cell? ⟨b, 1, none⟩ = some (strV s1)) (c2 : w.cell? ⟨b, 2, none⟩ = some (strV s2)) (h1 : s1.length ≤ 4000) (h2 : s2.length ≤ 4000) (hd : DoorR w) (h0 : s0 = wRange) :
    Calls Tryz.prog 136 #[.slice (some ⟨b, 0, none⟩) 3 3] w (RetR LineR (overLF (fun p x => told2 (mrangeF p x)) s1 s2) w) := by
  unfold overLF
  cases ha : aheadF s1 s2 with
  | none => exact over_bad1 b 3 (by omega) s0 s1 s2 w c0 c1 c2 h1 h2 hd ha
  | some t => obtain ⟨p, x⟩ := t; exact over_range b s0 s1 s2 w c0 c1 c2 h1 h2 hd ha h0
theorem over_any3n (b : Nat) (s0 s1 s2 : List UInt8) (w : World) (c0 : w.cell? ⟨b, 0, none⟩ = some (strV s0)) (c1 : w.cell? ⟨b, 1, none⟩ = some (strV s1)) (c2 : w.cell? ⟨b, 2, none⟩ = some (strV s2)) (h1 : s1.length ≤ 4000) (h2 : s2.length ≤ 4000) (hd : DoorR w) (h0 : s0 = wNewton) :
    Calls Tryz.prog 136 #[.slice (some ⟨b, 0, none⟩) 3 3] w (RetR LineR (overLF (fun p x => told2 (nrunF p x 20)) s1 s2) w) := by
  unfold overLF
  cases ha : aheadF s1 s2 with
  | none => exact over_bad1 b 3 (by omega) s0 s1 s2 w c0 c1 c2 h1 h2 hd ha
  | some t => obtain ⟨p, x⟩ := t; exact over_newton b s0 s1 s2 w c0 c1 c2 h1 h2 hd ha h0
theorem over_any4 (b : Nat) (s0 s1 s2 s3 : List UInt8) (w : World) (c0 : w.cell? ⟨b, 0, none⟩ = some (strV s0)) (c1 : w.cell? ⟨b, 1, none⟩ = some (strV s1)) (c2 : w.cell? ⟨b, 2, none⟩ = some (strV s2)) (c3 : w.cell? ⟨b, 3, none⟩ = some (strV s3)) (h1 : s1.length ≤ 4000) (h2 : s2.length ≤ 4000) (h3 : s3.length ≤ 4000) (hd : DoorR w) (h0 : s0 = wRoots) :
    Calls Tryz.prog 136 #[.slice (some ⟨b, 0, none⟩) 4 4] w (RetR LineR (overLF (fun p x => rootsF p x s3) s1 s2) w) := by
  unfold overLF
  cases ha : aheadF s1 s2 with
  | none => exact over_bad1 b 4 (by omega) s0 s1 s2 w c0 c1 c2 h1 h2 hd ha
  | some t => obtain ⟨p, x⟩ := t; exact over_roots b s0 s1 s2 s3 w c0 c1 c2 c3 h1 h2 h3 hd ha h0
theorem fn_ne (K : Nat) (w : World) : Sem.run Tryz.prog (binOp BinOp.neq 128 (.func (.func K) #[] #[]) .nilFunc) w = Result.ok (.bool true) w := by kernel_rfl
theorem fn_nil (w : World) : Sem.run Tryz.prog (binOp BinOp.neq 128 .nilFunc .nilFunc) w = Result.ok (.bool false) w := by kernel_rfl
theorem lineR_form {w : World} {r : Except (Option Nat) (List UInt8)} {v : Value} (h : LineR w r v) : ∃ t e, v = .tuple #[strV t, e] := by
  unfold LineR at h
  split at h
  · exact ⟨_, _, h⟩
  · obtain ⟨t, h⟩ := h; exact ⟨_, _, h⟩
  · obtain ⟨t, h⟩ := h; exact ⟨_, _, h⟩
set_option maxRecDepth 100000 in
set_option maxHeartbeats 8000000 in
theorem line3_any (s a b c : List UInt8) (w : World) (hs : s.length ≤ 4000) (hd : DoorR w) (h : splitF 32 s = [a, b, c]) (hf : lineF s = line3F a b c) : Calls Tryz.prog 91 #[.string ⟨s.toArray⟩] w (RetR LineR (lineF s) w) := by
  have HS := hid (fun W => (by have := split_any 32 s W (by omega); rw [h] at this; exact this : Calls Tryz.prog 132 #[.string ⟨s.toArray⟩, .string ⟨#[32]⟩] W fun e w' => e = .returned (.slice (some ⟨W.heap.size, 0, none⟩) 3 3) ∧ w' = W.alloc (.cells ([a, b, c].map strV).toArray 9)))
  have hl := (split_len 32 s).2
  rw [h] at hl
  have HLb := hid (Nat.le_trans (hl b (by simp)) hs); have HLc := hid (Nat.le_trans (hl c (by simp)) hs)
  have HD := hid hd
  have hfn := fn_ne
  have hfz := fn_nil
  clear h hs hl hd
  unfold line3F at hf
  cases ho : opF a with
  | some f =>
    rw [ho] at hf
    obtain ⟨K, hK, -, -, -⟩ := op_any ho
    have HV := hid hK; have HO := hid ho; have HF := hid hf
    clear hK ho hf
    go_enter Tryz.func91, Tryz.ntmps91
    go_wp2_with (first
                        | (go_at_call 132; (with_reducible refine (HS.out _).mono ?_); rintro e w1 ⟨rfl, hw1⟩; (have hb1 : Up w w1 := (by rw [hw1]; exact (Up.refl w).alloc _)); (have k0 := (by rw [hw1]; exact cells_at w [a, b, c] _ 0 (by simp) : w1.cell? ⟨w.heap.size, 0, none⟩ = some (strV a))); (have k1 := (by rw [hw1]; exact cells_at w [a, b, c] _ 1 (by simp) : w1.cell? ⟨w.heap.size, 1, none⟩ = some (strV b))); (have k2 := (by rw [hw1]; exact cells_at w [a, b, c] _ 2 (by simp) : w1.cell? ⟨w.heap.size, 2, none⟩ = some (strV c))); (have hlt := (by rw [hw1]; simp : w.heap.size < w1.heap.size)); clear hw1; have K0 := hid k0; have K1 := hid k1; have K2 := hid k2; rw [strV_eq] at k0 k1 k2)
                        | (go_at_call 133; (with_reducible refine (deed_any a _).mono ?_); rintro e w5 ⟨rfl, rfl⟩; rw [HV.out])
                        | ((go_at_call 134; (with_reducible refine (ltwo_any w.heap.size a b c _ K0.out K1.out K2.out HLb.out HLc.out HO.out (HD.out.up (by (repeat (first | (with_reducible exact Up.refl _) | (with_reducible assumption) | (with_reducible refine Up.alloc ?_ _) | (with_reducible refine Up.drew ?_) | ((with_reducible refine Up.set ?_ ?_ _); rotate_left; focus (first | omega | (simp; done) | (simp; omega))) | (with_reducible refine Up.drewN ?_ _) | (with_reducible refine Up.call ?_ (by with_reducible assumption))))))).mono ?_); rintro e w6 ⟨x6, v6, hx6, rfl, hv6, hb6⟩ <;> (obtain ⟨t6, e6, rfl⟩ := lineR_form hv6)) <;> (have hle := Up.le hb6; (try simp only [World.size_alloc, World.size_setCell, World.size_drew, World.heap_drewN] at hle); clear hle)))
    go_ret2
    exact RetR.mk x6 (by (repeat (first | (with_reducible exact Up.refl _) | (with_reducible assumption) | (with_reducible refine Up.alloc ?_ _) | (with_reducible refine Up.drew ?_) | ((with_reducible refine Up.set ?_ ?_ _); rotate_left; focus (first | omega | (simp; done) | (simp; omega))) | (with_reducible refine Up.drewN ?_ _) | (with_reducible refine Up.call ?_ (by with_reducible assumption))))) (HF.out.trans hx6) (rel := LineR) hv6
  | none =>
    rw [ho] at hf
    dsimp only at hf
    have HV := hid (op_none ho)
    clear ho
    by_cases h0 : a = wPower
    · rw [if_pos h0] at hf
      have HF := hid hf
      have nP : (a == [112, 111, 119, 101, 114]) = true := beq_iff_eq.2 h0
      clear hf h0
      go_enter Tryz.func91, Tryz.ntmps91
      go_wp2_with (first
                        | (go_at_call 132; (with_reducible refine (HS.out _).mono ?_); rintro e w1 ⟨rfl, hw1⟩; (have hb1 : Up w w1 := (by rw [hw1]; exact (Up.refl w).alloc _)); (have k0 := (by rw [hw1]; exact cells_at w [a, b, c] _ 0 (by simp) : w1.cell? ⟨w.heap.size, 0, none⟩ = some (strV a))); (have k1 := (by rw [hw1]; exact cells_at w [a, b, c] _ 1 (by simp) : w1.cell? ⟨w.heap.size, 1, none⟩ = some (strV b))); (have k2 := (by rw [hw1]; exact cells_at w [a, b, c] _ 2 (by simp) : w1.cell? ⟨w.heap.size, 2, none⟩ = some (strV c))); (have hlt := (by rw [hw1]; simp : w.heap.size < w1.heap.size)); clear hw1; have K0 := hid k0; have K1 := hid k1; have K2 := hid k2; rw [strV_eq] at k0 k1 k2)
                        | (go_at_call 133; (with_reducible refine (deed_any a _).mono ?_); rintro e w5 ⟨rfl, rfl⟩; rw [HV.out])
                        | ((go_at_call 135; (with_reducible refine (lraise_any w.heap.size a b c _ K0.out K1.out K2.out HLb.out (HD.out.up (by (repeat (first | (with_reducible exact Up.refl _) | (with_reducible assumption) | (with_reducible refine Up.alloc ?_ _) | (with_reducible refine Up.drew ?_) | ((with_reducible refine Up.set ?_ ?_ _); rotate_left; focus (first | omega | (simp; done) | (simp; omega))) | (with_reducible refine Up.drewN ?_ _) | (with_reducible refine Up.call ?_ (by with_reducible assumption))))))).mono ?_); rintro e w6 ⟨x6, v6, hx6, rfl, hv6, hb6⟩ <;> (obtain ⟨t6, e6, rfl⟩ := lineR_form hv6)) <;> (have hle := Up.le hb6; (try simp only [World.size_alloc, World.size_setCell, World.size_drew, World.heap_drewN] at hle); clear hle)))
      go_ret2
      exact RetR.mk x6 (by (repeat (first | (with_reducible exact Up.refl _) | (with_reducible assumption) | (with_reducible refine Up.alloc ?_ _) | (with_reducible refine Up.drew ?_) | ((with_reducible refine Up.set ?_ ?_ _); rotate_left; focus (first | omega | (simp; done) | (simp; omega))) | (with_reducible refine Up.drewN ?_ _) | (with_reducible refine Up.call ?_ (by with_reducible assumption))))) (HF.out.trans hx6) (rel := LineR) hv6
    · rw [if_neg h0] at hf
      have nP : (a == [112, 111, 119, 101, 114]) = false := beq_eq_false_iff_ne.2 h0
      clear h0
      by_cases h1 : a = wRange
      · rw [if_pos h1] at hf
        have HF := hid hf; have H1 := hid h1
        have nR : (a == [114, 97, 110, 103, 101]) = true := beq_iff_eq.2 h1
        clear hf h1
        go_enter Tryz.func91, Tryz.ntmps91
        go_wp2_with (first
                        | (go_at_call 132; (with_reducible refine (HS.out _).mono ?_); rintro e w1 ⟨rfl, hw1⟩; (have hb1 : Up w w1 := (by rw [hw1]; exact (Up.refl w).alloc _)); (have k0 := (by rw [hw1]; exact cells_at w [a, b, c] _ 0 (by simp) : w1.cell? ⟨w.heap.size, 0, none⟩ = some (strV a))); (have k1 := (by rw [hw1]; exact cells_at w [a, b, c] _ 1 (by simp) : w1.cell? ⟨w.heap.size, 1, none⟩ = some (strV b))); (have k2 := (by rw [hw1]; exact cells_at w [a, b, c] _ 2 (by simp) : w1.cell? ⟨w.heap.size, 2, none⟩ = some (strV c))); (have hlt := (by rw [hw1]; simp : w.heap.size < w1.heap.size)); clear hw1; have K0 := hid k0; have K1 := hid k1; have K2 := hid k2; rw [strV_eq] at k0 k1 k2)
                        | (go_at_call 133; (with_reducible refine (deed_any a _).mono ?_); rintro e w5 ⟨rfl, rfl⟩; rw [HV.out])
                        | ((go_at_call 136; (with_reducible refine (over_any3r w.heap.size a b c _ K0.out K1.out K2.out HLb.out HLc.out (HD.out.up (by (repeat (first | (with_reducible exact Up.refl _) | (with_reducible assumption) | (with_reducible refine Up.alloc ?_ _) | (with_reducible refine Up.drew ?_) | ((with_reducible refine Up.set ?_ ?_ _); rotate_left; focus (first | omega | (simp; done) | (simp; omega))) | (with_reducible refine Up.drewN ?_ _) | (with_reducible refine Up.call ?_ (by with_reducible assumption)))))) H1.out).mono ?_); rintro e w6 ⟨x6, v6, hx6, rfl, hv6, hb6⟩ <;> (obtain ⟨t6, e6, rfl⟩ := lineR_form hv6)) <;> (have hle := Up.le hb6; (try simp only [World.size_alloc, World.size_setCell, World.size_drew, World.heap_drewN] at hle); clear hle)))
        go_ret2
        exact RetR.mk x6 (by (repeat (first | (with_reducible exact Up.refl _) | (with_reducible assumption) | (with_reducible refine Up.alloc ?_ _) | (with_reducible refine Up.drew ?_) | ((with_reducible refine Up.set ?_ ?_ _); rotate_left; focus (first | omega | (simp; done) | (simp; omega))) | (with_reducible refine Up.drewN ?_ _) | (with_reducible refine Up.call ?_ (by with_reducible assumption))))) (HF.out.trans hx6) (rel := LineR) hv6
      · rw [if_neg h1] at hf
        have nR : (a == [114, 97, 110, 103, 101]) = false := beq_eq_false_iff_ne.2 h1
        clear h1
        by_cases h2 : a = wNewton
        · rw [if_pos h2] at hf
          have HF := hid hf; have H1 := hid h2
          have nN : (a == [110, 101, 119, 116, 111, 110]) = true := beq_iff_eq.2 h2
          clear hf h2
          go_enter Tryz.func91, Tryz.ntmps91
          go_wp2_with (first
                        | (go_at_call 132; (with_reducible refine (HS.out _).mono ?_); rintro e w1 ⟨rfl, hw1⟩; (have hb1 : Up w w1 := (by rw [hw1]; exact (Up.refl w).alloc _)); (have k0 := (by rw [hw1]; exact cells_at w [a, b, c] _ 0 (by simp) : w1.cell? ⟨w.heap.size, 0, none⟩ = some (strV a))); (have k1 := (by rw [hw1]; exact cells_at w [a, b, c] _ 1 (by simp) : w1.cell? ⟨w.heap.size, 1, none⟩ = some (strV b))); (have k2 := (by rw [hw1]; exact cells_at w [a, b, c] _ 2 (by simp) : w1.cell? ⟨w.heap.size, 2, none⟩ = some (strV c))); (have hlt := (by rw [hw1]; simp : w.heap.size < w1.heap.size)); clear hw1; have K0 := hid k0; have K1 := hid k1; have K2 := hid k2; rw [strV_eq] at k0 k1 k2)
                        | (go_at_call 133; (with_reducible refine (deed_any a _).mono ?_); rintro e w5 ⟨rfl, rfl⟩; rw [HV.out])
                        | ((go_at_call 136; (with_reducible refine (over_any3n w.heap.size a b c _ K0.out K1.out K2.out HLb.out HLc.out (HD.out.up (by (repeat (first | (with_reducible exact Up.refl _) | (with_reducible assumption) | (with_reducible refine Up.alloc ?_ _) | (with_reducible refine Up.drew ?_) | ((with_reducible refine Up.set ?_ ?_ _); rotate_left; focus (first | omega | (simp; done) | (simp; omega))) | (with_reducible refine Up.drewN ?_ _) | (with_reducible refine Up.call ?_ (by with_reducible assumption)))))) H1.out).mono ?_); rintro e w6 ⟨x6, v6, hx6, rfl, hv6, hb6⟩ <;> (obtain ⟨t6, e6, rfl⟩ := lineR_form hv6)) <;> (have hle := Up.le hb6; (try simp only [World.size_alloc, World.size_setCell, World.size_drew, World.heap_drewN] at hle); clear hle)))
          go_ret2
          exact RetR.mk x6 (by (repeat (first | (with_reducible exact Up.refl _) | (with_reducible assumption) | (with_reducible refine Up.alloc ?_ _) | (with_reducible refine Up.drew ?_) | ((with_reducible refine Up.set ?_ ?_ _); rotate_left; focus (first | omega | (simp; done) | (simp; omega))) | (with_reducible refine Up.drewN ?_ _) | (with_reducible refine Up.call ?_ (by with_reducible assumption))))) (HF.out.trans hx6) (rel := LineR) hv6
        · rw [if_neg h2] at hf
          have HF := hid hf
          have nN : (a == [110, 101, 119, 116, 111, 110]) = false := beq_eq_false_iff_ne.2 h2
          clear hf h2
          go_enter Tryz.func91, Tryz.ntmps91
          go_upto_region 10 with (first
    | (go_at_call 132; (with_reducible refine (HS.out _).mono ?_); rintro e w1 ⟨rfl, hw1⟩; (have hb1 : Up w w1 := (by rw [hw1]; exact (Up.refl w).alloc _)); (have k0 := (by rw [hw1]; exact cells_at w [a, b, c] _ 0 (by simp) : w1.cell? ⟨w.heap.size, 0, none⟩ = some (strV a))); (have k1 := (by rw [hw1]; exact cells_at w [a, b, c] _ 1 (by simp) : w1.cell? ⟨w.heap.size, 1, none⟩ = some (strV b))); (have k2 := (by rw [hw1]; exact cells_at w [a, b, c] _ 2 (by simp) : w1.cell? ⟨w.heap.size, 2, none⟩ = some (strV c))); (have hlt := (by rw [hw1]; simp : w.heap.size < w1.heap.size)); clear hw1; (have hun := (HD.out.up hb1).unread); have K0 := hid k0; have K1 := hid k1; have K2 := hid k2; rw [strV_eq] at k0 k1 k2)
    | (go_at_call 133; (with_reducible refine (deed_any a _).mono ?_); rintro e w5 ⟨rfl, rfl⟩; rw [HV.out]))
          go_quiet (fail)
          go_wp2
          go_ret2
          exact RetR.mk (.error none : Except (Option Nat) (List UInt8)) (by (repeat (first | (with_reducible exact Up.refl _) | (with_reducible assumption) | (with_reducible refine Up.alloc ?_ _) | (with_reducible refine Up.drew ?_) | ((with_reducible refine Up.set ?_ ?_ _); rotate_left; focus (first | omega | (simp; done) | (simp; omega))) | (with_reducible refine Up.drewN ?_ _) | (with_reducible refine Up.call ?_ (by with_reducible assumption))))) HF.out (rel := LineR) ⟨[], rfl⟩
set_option maxRecDepth 100000 in
set_option maxHeartbeats 8000000 in
theorem line4_any (s a b c d : List UInt8) (w : World) (hs : s.length ≤ 4000) (hd : DoorR w) (h : splitF 32 s = [a, b, c, d]) (hf : lineF s = line4F a b c d) : Calls Tryz.prog 91 #[.string ⟨s.toArray⟩] w (RetR LineR (lineF s) w) := by
  have HS := hid (fun W => (by have := split_any 32 s W (by omega); rw [h] at this; exact this : Calls Tryz.prog 132 #[.string ⟨s.toArray⟩, .string ⟨#[32]⟩] W fun e w' => e = .returned (.slice (some ⟨W.heap.size, 0, none⟩) 4 4) ∧ w' = W.alloc (.cells ([a, b, c, d].map strV).toArray 9)))
  have hl := (split_len 32 s).2
  rw [h] at hl
  have HLb := hid (Nat.le_trans (hl b (by simp)) hs); have HLc := hid (Nat.le_trans (hl c (by simp)) hs); have HLd := hid (Nat.le_trans (hl d (by simp)) hs)
  have HD := hid hd
  clear h hs hl hd
  unfold line4F at hf
  by_cases h1 : a = wRoots
  · rw [if_pos h1] at hf
    have HF := hid hf; have H1 := hid h1
    have nR : (a == [114, 111, 111, 116, 115]) = true := beq_iff_eq.2 h1
    clear hf h1
    go_enter Tryz.func91, Tryz.ntmps91
    go_wp2_with (first
                        | (go_at_call 132; (with_reducible refine (HS.out _).mono ?_); rintro e w1 ⟨rfl, hw1⟩; (have hb1 : Up w w1 := (by rw [hw1]; exact (Up.refl w).alloc _)); (have k0 := (by rw [hw1]; exact cells_at w [a, b, c, d] _ 0 (by simp) : w1.cell? ⟨w.heap.size, 0, none⟩ = some (strV a))); (have k1 := (by rw [hw1]; exact cells_at w [a, b, c, d] _ 1 (by simp) : w1.cell? ⟨w.heap.size, 1, none⟩ = some (strV b))); (have k2 := (by rw [hw1]; exact cells_at w [a, b, c, d] _ 2 (by simp) : w1.cell? ⟨w.heap.size, 2, none⟩ = some (strV c))); (have k3 := (by rw [hw1]; exact cells_at w [a, b, c, d] _ 3 (by simp) : w1.cell? ⟨w.heap.size, 3, none⟩ = some (strV d))); (have hlt := (by rw [hw1]; simp : w.heap.size < w1.heap.size)); clear hw1; have K0 := hid k0; have K1 := hid k1; have K2 := hid k2; have K3 := hid k3; rw [strV_eq] at k0 k1 k2 k3)
                        | ((go_at_call 136; (with_reducible refine (over_any4 w.heap.size a b c d _ K0.out K1.out K2.out K3.out HLb.out HLc.out HLd.out (HD.out.up (by (repeat (first | (with_reducible exact Up.refl _) | (with_reducible assumption) | (with_reducible refine Up.alloc ?_ _) | (with_reducible refine Up.drew ?_) | ((with_reducible refine Up.set ?_ ?_ _); rotate_left; focus (first | omega | (simp; done) | (simp; omega))) | (with_reducible refine Up.drewN ?_ _) | (with_reducible refine Up.call ?_ (by with_reducible assumption)))))) H1.out).mono ?_); rintro e w6 ⟨x6, v6, hx6, rfl, hv6, hb6⟩ <;> (obtain ⟨t6, e6, rfl⟩ := lineR_form hv6)) <;> (have hle := Up.le hb6; (try simp only [World.size_alloc, World.size_setCell, World.size_drew, World.heap_drewN] at hle); clear hle)))
    go_ret2
    exact RetR.mk x6 (by (repeat (first | (with_reducible exact Up.refl _) | (with_reducible assumption) | (with_reducible refine Up.alloc ?_ _) | (with_reducible refine Up.drew ?_) | ((with_reducible refine Up.set ?_ ?_ _); rotate_left; focus (first | omega | (simp; done) | (simp; omega))) | (with_reducible refine Up.drewN ?_ _) | (with_reducible refine Up.call ?_ (by with_reducible assumption))))) (HF.out.trans hx6) (rel := LineR) hv6
  · rw [if_neg h1] at hf
    have HF := hid hf
    have nR : (a == [114, 111, 111, 116, 115]) = false := beq_eq_false_iff_ne.2 h1
    clear hf h1
    go_enter Tryz.func91, Tryz.ntmps91
    go_upto_region 10 with (first
    | (go_at_call 132; (with_reducible refine (HS.out _).mono ?_); rintro e w1 ⟨rfl, hw1⟩; (have hb1 : Up w w1 := (by rw [hw1]; exact (Up.refl w).alloc _)); (have k0 := (by rw [hw1]; exact cells_at w [a, b, c, d] _ 0 (by simp) : w1.cell? ⟨w.heap.size, 0, none⟩ = some (strV a))); (have k1 := (by rw [hw1]; exact cells_at w [a, b, c, d] _ 1 (by simp) : w1.cell? ⟨w.heap.size, 1, none⟩ = some (strV b))); (have k2 := (by rw [hw1]; exact cells_at w [a, b, c, d] _ 2 (by simp) : w1.cell? ⟨w.heap.size, 2, none⟩ = some (strV c))); (have k3 := (by rw [hw1]; exact cells_at w [a, b, c, d] _ 3 (by simp) : w1.cell? ⟨w.heap.size, 3, none⟩ = some (strV d))); (have hlt := (by rw [hw1]; simp : w.heap.size < w1.heap.size)); clear hw1; (have hun := (HD.out.up hb1).unread); have K0 := hid k0; have K1 := hid k1; have K2 := hid k2; have K3 := hid k3; rw [strV_eq] at k0 k1 k2 k3))
    go_quiet (fail)
    go_wp2
    go_ret2
    exact RetR.mk (.error none : Except (Option Nat) (List UInt8)) (by (repeat (first | (with_reducible exact Up.refl _) | (with_reducible assumption) | (with_reducible refine Up.alloc ?_ _) | (with_reducible refine Up.drew ?_) | ((with_reducible refine Up.set ?_ ?_ _); rotate_left; focus (first | omega | (simp; done) | (simp; omega))) | (with_reducible refine Up.drewN ?_ _) | (with_reducible refine Up.call ?_ (by with_reducible assumption))))) HF.out (rel := LineR) ⟨[], rfl⟩
set_option maxRecDepth 100000 in
set_option maxHeartbeats 8000000 in
theorem line_any (s : List UInt8) (w : World) (hs : s.length ≤ 4000) (hd : DoorR w) : Calls Tryz.prog 91 #[.string ⟨s.toArray⟩] w (RetR LineR (lineF s) w) := by
  rcases line_ways s with ⟨a, b, c, h, hf⟩ | ⟨a, b, c, d, h, hf⟩ | ⟨h3, h4, hf⟩
  · exact line3_any s a b c w hs hd h hf
  · exact line4_any s a b c d w hs hd h hf
  · have HS := hid (fun W => split_any 32 s W (by omega))
    have hl := (split_len 32 s).1
    have HD := hid hd; have HF := hid hf
    generalize (splitF 32 s).length = n at *
    have n3 : ((n : Int) == 3) = false := beq_eq_false_iff_ne.2 (by omega)
    have n4 : ((n : Int) == 4) = false := beq_eq_false_iff_ne.2 (by omega)
    clear hf h3 h4 hs hd
    go_enter Tryz.func91, Tryz.ntmps91
    go_upto_region 10 with (first
    | (go_at_call 132; (with_reducible refine (HS.out _).mono ?_); rintro e w1 ⟨rfl, hw1⟩; (have hb1 : Up w w1 := (by rw [hw1]; exact (Up.refl w).alloc _)); (have hlt := (by rw [hw1]; simp : w.heap.size < w1.heap.size)); clear hw1; (have hun := (HD.out.up hb1).unread)))
    go_quiet (fail)
    go_wp2
    go_ret2
    exact RetR.mk (.error none : Except (Option Nat) (List UInt8)) (by (repeat (first | (with_reducible exact Up.refl _) | (with_reducible assumption) | (with_reducible refine Up.alloc ?_ _) | (with_reducible refine Up.drew ?_) | ((with_reducible refine Up.set ?_ ?_ _); rotate_left; focus (first | omega | (simp; done) | (simp; omega))) | (with_reducible refine Up.drewN ?_ _) | (with_reducible refine Up.call ?_ (by with_reducible assumption))))) HF.out (rel := LineR) ⟨[], rfl⟩
end Go.Proofs.YtmjcnpolnknkkaaGreatDoor
