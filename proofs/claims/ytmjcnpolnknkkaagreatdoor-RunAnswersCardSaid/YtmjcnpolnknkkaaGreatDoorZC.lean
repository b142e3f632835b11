/- Sessions, the reference: a line of roots. Sessions, the reference: any line is answered. -/
import Derived.Test.YtmjcnpolnknkkaaGreatDoorZ9
import Derived.Test.YtmjcnpolnknkkaaGreatDoorPRfg
import Derived.BigGuard
import Derived.Deep.DeepCutAuto
import Derived.Test.YtmjcnpolnknkkaaGreatDoorZA
import Derived.Test.YtmjcnpolnknkkaaGreatDoorZB
set_option linter.unusedVariables false
set_option linter.unusedSimpArgs false
namespace Go.Proofs.YtmjcnpolnknkkaaGreatDoor
open Go.RowKit









set_option maxRecDepth 100000 in
set_option maxHeartbeats 16000000 in
theorem rline_roots (s a b c d : List UInt8) (w : World) (hs : s.length ≤ 4000) (h : splitF 32 s = [a, b, c, d]) (h0 : a = wRoots) {F : List Int → Sp → Except (Option Nat) (List UInt8)} (hFF : F = fun p x => rootsF p x d) : Calls Tryz.prog 21 #[.string ⟨s.toArray⟩] w (RetX strV (ansF (overLF F b c)) w) := by
  have nO : (a == [114, 111, 111, 116, 115]) = true := by rw [h0]; rfl
  have HFF := hid hFF
  clear hFF
  have HS := hid (fun W => show Calls Tryz.prog 20 #[.string ⟨s.toArray⟩, .int .u8 32] W (RetR wdR [a, b, c, d] W) from by have := rcut_any 32 s W (by omega); rw [h] at this; exact this)
  have hl := (split_len 32 s).2
  rw [h] at hl
  have HLb := hid (Nat.le_trans (hl b (by simp)) hs); have HLc := hid (Nat.le_trans (hl c (by simp)) hs); have HLd := hid (show d.length ≤ 1048576 by have := Nat.le_trans (hl d (by simp)) hs; omega)
  clear h hs hl h0
  go_enter Tryz.func21, Tryz.ntmps21
  go_upto_region 2 with (first
    | ((go_at_call 20; (with_reducible refine (HS.out _).mono ?_); rintro e w1 ⟨x1, v1, rfl, rfl, hv1, hb1⟩ <;> (obtain ⟨g, cg, rfl, hcg, hg, hk⟩ := wd4 hv1; have HK := hid hk; obtain ⟨k0, k1, k2, k3⟩ := hk w1 (Up.refl _); clear hk hv1)) <;> (have hle := Up.le hb1; (try simp only [World.size_alloc, World.size_setCell, World.size_drew, World.heap_drewN] at hle); (try (have _ : g < w1.heap.size := (by omega))); clear hle)))
  go_cut [69] from 31 to 69 (fun t wx => t = .bool false ∧ wx = w1)
  case first =>
    as_aux_lemma =>
    go_wp2
    go_meet
    exact ⟨rfl, rfl⟩
  case rest =>
  obtain ⟨rfl, hw⟩ := hcut
  have hw2 := hw.symm
  subst hw2
  clear hw
  cases r1 : rnumsF b with
  | none =>
    have H1 := hid r1; have HF := hid (ahead_not (f := F) (c := c) (.inl r1))
    clear r1
    cases r2 : spanF c with
    | none =>
      have H2 := hid r2
      clear r2
      go_wp2_with (first
                        | ((go_at_call 62; (with_reducible refine (lnumbers_any b _ HLb.out).mono ?_); rintro e w2 ⟨x2, v2, hx2, rfl, hv2, hb2⟩ <;> (rw [H1.out] at hx2; subst hx2; obtain rfl := hv2; have kk2 := HK.out w2 (by (repeat (first | (with_reducible exact Up.refl _) | (with_reducible assumption) | (with_reducible refine Up.alloc ?_ _) | (with_reducible refine Up.drew ?_) | ((with_reducible refine Up.set ?_ ?_ _); rotate_left; focus (first | omega | (simp; done) | (simp; omega))) | (with_reducible refine Up.drewN ?_ _) | (with_reducible refine Up.call ?_ (by with_reducible assumption))))); obtain ⟨p0, p1, p2, p3⟩ := kk2)) <;> (have hle := Up.le hb2; (try simp only [World.size_alloc, World.size_setCell, World.size_drew, World.heap_drewN] at hle); (try (have _ : g < w2.heap.size := (by omega))); clear hle))
                        | ((go_at_call 54; (with_reducible refine (rsp_any c _ HLc.out).mono ?_); rintro e w3 ⟨x3, hx3, rfl, hb3⟩ <;> (rw [H2.out] at hx3; subst hx3; dsimp only [rspB]; have kk3 := HK.out w3 (by (repeat (first | (with_reducible exact Up.refl _) | (with_reducible assumption) | (with_reducible refine Up.alloc ?_ _) | (with_reducible refine Up.drew ?_) | ((with_reducible refine Up.set ?_ ?_ _); rotate_left; focus (first | omega | (simp; done) | (simp; omega))) | (with_reducible refine Up.drewN ?_ _) | (with_reducible refine Up.call ?_ (by with_reducible assumption))))); obtain ⟨q0, q1, q2, q3⟩ := kk3)) <;> (have hle := Up.le hb3; (try simp only [World.size_alloc, World.size_setCell, World.size_drew, World.heap_drewN] at hle); (try (have _ : g < w3.heap.size := (by omega))); clear hle)))
      go_ret
      exact RetX.mk ([98, 97, 100] : List UInt8) (by (repeat (first | (with_reducible exact Up.refl _) | (with_reducible assumption) | (with_reducible refine Up.alloc ?_ _) | (with_reducible refine Up.drew ?_) | ((with_reducible refine Up.set ?_ ?_ _); rotate_left; focus (first | omega | (simp; done) | (simp; omega))) | (with_reducible refine Up.drewN ?_ _) | (with_reducible refine Up.call ?_ (by with_reducible assumption))))) HF.out rfl
    | some x =>
      have H2 := hid r2
      obtain ⟨e1, e2⟩ := x
      clear r2
      go_wp2_with (first
                        | ((go_at_call 62; (with_reducible refine (lnumbers_any b _ HLb.out).mono ?_); rintro e w2 ⟨x2, v2, hx2, rfl, hv2, hb2⟩ <;> (rw [H1.out] at hx2; subst hx2; obtain rfl := hv2; have kk2 := HK.out w2 (by (repeat (first | (with_reducible exact Up.refl _) | (with_reducible assumption) | (with_reducible refine Up.alloc ?_ _) | (with_reducible refine Up.drew ?_) | ((with_reducible refine Up.set ?_ ?_ _); rotate_left; focus (first | omega | (simp; done) | (simp; omega))) | (with_reducible refine Up.drewN ?_ _) | (with_reducible refine Up.call ?_ (by with_reducible assumption))))); obtain ⟨p0, p1, p2, p3⟩ := kk2)) <;> (have hle := Up.le hb2; (try simp only [World.size_alloc, World.size_setCell, World.size_drew, World.heap_drewN] at hle); (try (have _ : g < w2.heap.size := (by omega))); clear hle))
                        | ((go_at_call 54; (with_reducible refine (rsp_any c _ HLc.out).mono ?_); rintro e w3 ⟨x3, hx3, rfl, hb3⟩ <;> (rw [H2.out] at hx3; subst hx3; dsimp only [rspB]; have kk3 := HK.out w3 (by (repeat (first | (with_reducible exact Up.refl _) | (with_reducible assumption) | (with_reducible refine Up.alloc ?_ _) | (with_reducible refine Up.drew ?_) | ((with_reducible refine Up.set ?_ ?_ _); rotate_left; focus (first | omega | (simp; done) | (simp; omega))) | (with_reducible refine Up.drewN ?_ _) | (with_reducible refine Up.call ?_ (by with_reducible assumption))))); obtain ⟨q0, q1, q2, q3⟩ := kk3)) <;> (have hle := Up.le hb3; (try simp only [World.size_alloc, World.size_setCell, World.size_drew, World.heap_drewN] at hle); (try (have _ : g < w3.heap.size := (by omega))); clear hle)))
      go_ret
      exact RetX.mk ([98, 97, 100] : List UInt8) (by (repeat (first | (with_reducible exact Up.refl _) | (with_reducible assumption) | (with_reducible refine Up.alloc ?_ _) | (with_reducible refine Up.drew ?_) | ((with_reducible refine Up.set ?_ ?_ _); rotate_left; focus (first | omega | (simp; done) | (simp; omega))) | (with_reducible refine Up.drewN ?_ _) | (with_reducible refine Up.call ?_ (by with_reducible assumption))))) HF.out rfl
  | some p =>
  cases r2 : spanF c with
  | none =>
    have H1 := hid r1; have HF := hid (ahead_not (f := F) (b := b) (.inr r2))
    have H2 := hid r2
    clear r1 r2
    go_wp2_with (first
                        | ((go_at_call 62; (with_reducible refine (lnumbers_any b _ HLb.out).mono ?_); rintro e w2 ⟨x2, v2, hx2, rfl, hv2, hb2⟩ <;> (rw [H1.out] at hx2; subst hx2; obtain ⟨A1, m1, rfl, hr1, hm1⟩ := hv2; have HR1 := hid hr1; clear hr1; have kk2 := HK.out w2 (by (repeat (first | (with_reducible exact Up.refl _) | (with_reducible assumption) | (with_reducible refine Up.alloc ?_ _) | (with_reducible refine Up.drew ?_) | ((with_reducible refine Up.set ?_ ?_ _); rotate_left; focus (first | omega | (simp; done) | (simp; omega))) | (with_reducible refine Up.drewN ?_ _) | (with_reducible refine Up.call ?_ (by with_reducible assumption))))); obtain ⟨p0, p1, p2, p3⟩ := kk2)) <;> (have hle := Up.le hb2; (try simp only [World.size_alloc, World.size_setCell, World.size_drew, World.heap_drewN] at hle); (try (have _ : g < w2.heap.size := (by omega))); clear hle))
                        | ((go_at_call 54; (with_reducible refine (rsp_any c _ HLc.out).mono ?_); rintro e w3 ⟨x3, hx3, rfl, hb3⟩ <;> (rw [H2.out] at hx3; subst hx3; dsimp only [rspB]; have kk3 := HK.out w3 (by (repeat (first | (with_reducible exact Up.refl _) | (with_reducible assumption) | (with_reducible refine Up.alloc ?_ _) | (with_reducible refine Up.drew ?_) | ((with_reducible refine Up.set ?_ ?_ _); rotate_left; focus (first | omega | (simp; done) | (simp; omega))) | (with_reducible refine Up.drewN ?_ _) | (with_reducible refine Up.call ?_ (by with_reducible assumption))))); obtain ⟨q0, q1, q2, q3⟩ := kk3)) <;> (have hle := Up.le hb3; (try simp only [World.size_alloc, World.size_setCell, World.size_drew, World.heap_drewN] at hle); (try (have _ : g < w3.heap.size := (by omega))); clear hle)))
    go_ret
    exact RetX.mk ([98, 97, 100] : List UInt8) (by (repeat (first | (with_reducible exact Up.refl _) | (with_reducible assumption) | (with_reducible refine Up.alloc ?_ _) | (with_reducible refine Up.drew ?_) | ((with_reducible refine Up.set ?_ ?_ _); rotate_left; focus (first | omega | (simp; done) | (simp; omega))) | (with_reducible refine Up.drewN ?_ _) | (with_reducible refine Up.call ?_ (by with_reducible assumption))))) HF.out rfl
  | some x =>
  have H1 := hid r1; have H2 := hid r2
  have HPL := hid (show p.length ≤ 9223372036854775807 by have := rnums_len r1; have := HLb.out; omega)
  have hrt := span_rt r2
  have HX := hid hrt
  cases hd : parseF d with
  | error e =>
    have HD := hid hd
    have he := parse_err hd
    have HF := hid (by have := roots_not r1 r2 hd; rw [← HFF.out] at this; exact this : ansF (overLF F b c) = [98, 97, 100])
    obtain ⟨e1, e2⟩ := x
    clear r1 r2 hd hrt
    go_wp2_with (first
                        | ((go_at_call 62; (with_reducible refine (lnumbers_any b _ HLb.out).mono ?_); rintro e w2 ⟨x2, v2, hx2, rfl, hv2, hb2⟩ <;> (rw [H1.out] at hx2; subst hx2; obtain ⟨A1, m1, rfl, hr1, hm1⟩ := hv2; have HR1 := hid hr1; clear hr1; have kk2 := HK.out w2 (by (repeat (first | (with_reducible exact Up.refl _) | (with_reducible assumption) | (with_reducible refine Up.alloc ?_ _) | (with_reducible refine Up.drew ?_) | ((with_reducible refine Up.set ?_ ?_ _); rotate_left; focus (first | omega | (simp; done) | (simp; omega))) | (with_reducible refine Up.drewN ?_ _) | (with_reducible refine Up.call ?_ (by with_reducible assumption))))); obtain ⟨p0, p1, p2, p3⟩ := kk2)) <;> (have hle := Up.le hb2; (try simp only [World.size_alloc, World.size_setCell, World.size_drew, World.heap_drewN] at hle); (try (have _ : g < w2.heap.size := (by omega))); clear hle))
                        | ((go_at_call 54; (with_reducible refine (rsp_any c _ HLc.out).mono ?_); rintro e w3 ⟨x3, hx3, rfl, hb3⟩ <;> (rw [H2.out] at hx3; subst hx3; dsimp only [rspB]; have kk3 := HK.out w3 (by (repeat (first | (with_reducible exact Up.refl _) | (with_reducible assumption) | (with_reducible refine Up.alloc ?_ _) | (with_reducible refine Up.drew ?_) | ((with_reducible refine Up.set ?_ ?_ _); rotate_left; focus (first | omega | (simp; done) | (simp; omega))) | (with_reducible refine Up.drewN ?_ _) | (with_reducible refine Up.call ?_ (by with_reducible assumption))))); obtain ⟨q0, q1, q2, q3⟩ := kk3)) <;> (have hle := Up.le hb3; (try simp only [World.size_alloc, World.size_setCell, World.size_drew, World.heap_drewN] at hle); (try (have _ : g < w3.heap.size := (by omega))); clear hle))
                        | ((go_at_call 17; (with_reducible refine (rread_any d HLd.out _).mono ?_); rintro e w4 ⟨x4, hx4, rfl, hb4⟩ <;> (rw [HD.out] at hx4; subst hx4; dsimp only [rdR])) <;> (have hle := Up.le hb4; (try simp only [World.size_alloc, World.size_setCell, World.size_drew, World.heap_drewN] at hle); (try (have _ : w3.heap.size < w4.heap.size := (by omega); (first | ((apply fk hb4 (w3.heap.size); (focus (go_simp; rfl)); (focus (intro o; go_simp)); intro z; (try clear f3_0); have f3_0 := z; clear z)) | skip); (try (apply fko hb4 (w3.heap.size) 0; (focus (go_simp; rfl)); (focus (go_simp; done)); intro z; (try clear g3_0_0); have g3_0_0 := z; clear z)); (try (apply fko hb4 (w3.heap.size) 1; (focus (go_simp; rfl)); (focus (go_simp; done)); intro z; (try clear g3_0_1); have g3_0_1 := z; clear z)); (try (apply ck hb4 (w3.heap.size) 0; (focus (go_simp; rfl)); intro z; (try clear c3_0_0); have c3_0_0 := z; clear z)); (try (apply ck hb4 (w3.heap.size) 1; (focus (go_simp; rfl)); intro z; (try clear c3_0_1); have c3_0_1 := z; clear z)))); (try (have _ : g < w4.heap.size := (by omega))); clear hle)))
    go_ret
    exact RetX.mk ([98, 97, 100] : List UInt8) (by (repeat (first | (with_reducible exact Up.refl _) | (with_reducible assumption) | (with_reducible refine Up.alloc ?_ _) | (with_reducible refine Up.drew ?_) | ((with_reducible refine Up.set ?_ ?_ _); rotate_left; focus (first | omega | (simp; done) | (simp; omega))) | (with_reducible refine Up.drewN ?_ _) | (with_reducible refine Up.call ?_ (by with_reducible assumption))))) HF.out rfl
  | ok n =>
  have HD := hid hd
  cases hp : pcheckF p with
  | some e =>
    have HP := hid hp
    have HF := hid (by have := roots_bad r1 r2 hd hp; rw [← HFF.out] at this; exact this : ansF (overLF F b c) = nameF e)
    obtain ⟨h1, h2⟩ := pc_num hp
    have HN := hid h2
    have hz : ((e : Int) == 0) = false := beq_eq_false_iff_ne.2 (by omega)
    have hz2 : ((e : Int) != 0) = true := by simp; omega
    obtain ⟨e1, e2⟩ := x
    clear r1 r2 hd hp hrt h1 h2
    go_wp2_with (first
                        | ((go_at_call 62; (with_reducible refine (lnumbers_any b _ HLb.out).mono ?_); rintro e w2 ⟨x2, v2, hx2, rfl, hv2, hb2⟩ <;> (rw [H1.out] at hx2; subst hx2; obtain ⟨A1, m1, rfl, hr1, hm1⟩ := hv2; have HR1 := hid hr1; clear hr1; have kk2 := HK.out w2 (by (repeat (first | (with_reducible exact Up.refl _) | (with_reducible assumption) | (with_reducible refine Up.alloc ?_ _) | (with_reducible refine Up.drew ?_) | ((with_reducible refine Up.set ?_ ?_ _); rotate_left; focus (first | omega | (simp; done) | (simp; omega))) | (with_reducible refine Up.drewN ?_ _) | (with_reducible refine Up.call ?_ (by with_reducible assumption))))); obtain ⟨p0, p1, p2, p3⟩ := kk2)) <;> (have hle := Up.le hb2; (try simp only [World.size_alloc, World.size_setCell, World.size_drew, World.heap_drewN] at hle); (try (have _ : g < w2.heap.size := (by omega))); clear hle))
                        | ((go_at_call 54; (with_reducible refine (rsp_any c _ HLc.out).mono ?_); rintro e w3 ⟨x3, hx3, rfl, hb3⟩ <;> (rw [H2.out] at hx3; subst hx3; dsimp only [rspB]; have kk3 := HK.out w3 (by (repeat (first | (with_reducible exact Up.refl _) | (with_reducible assumption) | (with_reducible refine Up.alloc ?_ _) | (with_reducible refine Up.drew ?_) | ((with_reducible refine Up.set ?_ ?_ _); rotate_left; focus (first | omega | (simp; done) | (simp; omega))) | (with_reducible refine Up.drewN ?_ _) | (with_reducible refine Up.call ?_ (by with_reducible assumption))))); obtain ⟨q0, q1, q2, q3⟩ := kk3)) <;> (have hle := Up.le hb3; (try simp only [World.size_alloc, World.size_setCell, World.size_drew, World.heap_drewN] at hle); (try (have _ : g < w3.heap.size := (by omega))); clear hle))
                        | ((go_at_call 17; (with_reducible refine (rread_any d HLd.out _).mono ?_); rintro e w4 ⟨x4, hx4, rfl, hb4⟩ <;> (rw [HD.out] at hx4; subst hx4; dsimp only [rdR])) <;> (have hle := Up.le hb4; (try simp only [World.size_alloc, World.size_setCell, World.size_drew, World.heap_drewN] at hle); (try (have _ : w3.heap.size < w4.heap.size := (by omega); (first | ((apply fk hb4 (w3.heap.size); (focus (go_simp; rfl)); (focus (intro o; go_simp)); intro z; (try clear f3_0); have f3_0 := z; clear z)) | skip); (try (apply fko hb4 (w3.heap.size) 0; (focus (go_simp; rfl)); (focus (go_simp; done)); intro z; (try clear g3_0_0); have g3_0_0 := z; clear z)); (try (apply fko hb4 (w3.heap.size) 1; (focus (go_simp; rfl)); (focus (go_simp; done)); intro z; (try clear g3_0_1); have g3_0_1 := z; clear z)); (try (apply ck hb4 (w3.heap.size) 0; (focus (go_simp; rfl)); intro z; (try clear c3_0_0); have c3_0_0 := z; clear z)); (try (apply ck hb4 (w3.heap.size) 1; (focus (go_simp; rfl)); intro z; (try clear c3_0_1); have c3_0_1 := z; clear z)))); (try (have _ : g < w4.heap.size := (by omega))); clear hle))
                        | ((go_at_call 63; (with_reducible refine (rpoly_any A1 p m1 _ HPL.out (HR1.out.up (by (repeat (first | (with_reducible exact Up.refl _) | (with_reducible assumption) | (with_reducible refine Up.alloc ?_ _) | (with_reducible refine Up.drew ?_) | ((with_reducible refine Up.set ?_ ?_ _); rotate_left; focus (first | omega | (simp; done) | (simp; omega))) | (with_reducible refine Up.drewN ?_ _) | (with_reducible refine Up.call ?_ (by with_reducible assumption))))))).mono ?_); rintro e w5 ⟨x5, hx5, rfl, hb5⟩ <;> (rw [HP.out] at hx5; subst hx5)) <;> (have hle := Up.le hb5; (try simp only [World.size_alloc, World.size_setCell, World.size_drew, World.heap_drewN] at hle); (try (have _ : w3.heap.size < w5.heap.size := (by omega); (first | ((apply fk hb5 (w3.heap.size); (focus (go_simp; rfl)); (focus (intro o; go_simp)); intro z; (try clear f3_0); have f3_0 := z; clear z)) | skip); (try (apply fko hb5 (w3.heap.size) 0; (focus (go_simp; rfl)); (focus (go_simp; done)); intro z; (try clear g3_0_0); have g3_0_0 := z; clear z)); (try (apply fko hb5 (w3.heap.size) 1; (focus (go_simp; rfl)); (focus (go_simp; done)); intro z; (try clear g3_0_1); have g3_0_1 := z; clear z)); (try (apply ck hb5 (w3.heap.size) 0; (focus (go_simp; rfl)); intro z; (try clear c3_0_0); have c3_0_0 := z; clear z)); (try (apply ck hb5 (w3.heap.size) 1; (focus (go_simp; rfl)); intro z; (try clear c3_0_1); have c3_0_1 := z; clear z)))); (try (have _ : g < w5.heap.size := (by omega))); clear hle))
                        | ((go_at_call 60; (with_reducible refine (rname_any e HN.out _).mono ?_); rintro e w6 ⟨x6, rfl, rfl, hb6⟩) <;> (have hle := Up.le hb6; (try simp only [World.size_alloc, World.size_setCell, World.size_drew, World.heap_drewN] at hle); (try (have _ : w3.heap.size < w6.heap.size := (by omega); (first | ((apply fk hb6 (w3.heap.size); (focus (go_simp; rfl)); (focus (intro o; go_simp)); intro z; (try clear f3_0); have f3_0 := z; clear z)) | skip); (try (apply fko hb6 (w3.heap.size) 0; (focus (go_simp; rfl)); (focus (go_simp; done)); intro z; (try clear g3_0_0); have g3_0_0 := z; clear z)); (try (apply fko hb6 (w3.heap.size) 1; (focus (go_simp; rfl)); (focus (go_simp; done)); intro z; (try clear g3_0_1); have g3_0_1 := z; clear z)); (try (apply ck hb6 (w3.heap.size) 0; (focus (go_simp; rfl)); intro z; (try clear c3_0_0); have c3_0_0 := z; clear z)); (try (apply ck hb6 (w3.heap.size) 1; (focus (go_simp; rfl)); intro z; (try clear c3_0_1); have c3_0_1 := z; clear z)))); (try (have _ : g < w6.heap.size := (by omega))); clear hle)))
    go_ret
    exact RetX.mk (nameF e) (by (repeat (first | (with_reducible exact Up.refl _) | (with_reducible assumption) | (with_reducible refine Up.alloc ?_ _) | (with_reducible refine Up.drew ?_) | ((with_reducible refine Up.set ?_ ?_ _); rotate_left; focus (first | omega | (simp; done) | (simp; omega))) | (with_reducible refine Up.drewN ?_ _) | (with_reducible refine Up.call ?_ (by with_reducible assumption))))) HF.out rfl
  | none =>
  have HP := hid hp
  obtain ⟨h0', h5, hpM⟩ := pc_parts hp
  by_cases hn : n < 1
  · have HF := hid (by have := roots_low r1 r2 hd hp hn; rw [← HFF.out] at this; exact this : ansF (overLF F b c) = nameF 1)
    have HN1 := hid (fun W => show Calls Tryz.prog 60 #[.int .i64 1] W (RetX strV (nameF 1) W) from rname_any 1 (by decide) W)
    have hnd : decide (n < 1) = true := decide_eq_true hn
    obtain ⟨e1, e2⟩ := x
    clear r1 r2 hd hp hrt h0' h5 hpM
    go_wp2_with (first
                        | ((go_at_call 62; (with_reducible refine (lnumbers_any b _ HLb.out).mono ?_); rintro e w2 ⟨x2, v2, hx2, rfl, hv2, hb2⟩ <;> (rw [H1.out] at hx2; subst hx2; obtain ⟨A1, m1, rfl, hr1, hm1⟩ := hv2; have HR1 := hid hr1; clear hr1; have kk2 := HK.out w2 (by (repeat (first | (with_reducible exact Up.refl _) | (with_reducible assumption) | (with_reducible refine Up.alloc ?_ _) | (with_reducible refine Up.drew ?_) | ((with_reducible refine Up.set ?_ ?_ _); rotate_left; focus (first | omega | (simp; done) | (simp; omega))) | (with_reducible refine Up.drewN ?_ _) | (with_reducible refine Up.call ?_ (by with_reducible assumption))))); obtain ⟨p0, p1, p2, p3⟩ := kk2)) <;> (have hle := Up.le hb2; (try simp only [World.size_alloc, World.size_setCell, World.size_drew, World.heap_drewN] at hle); (try (have _ : g < w2.heap.size := (by omega))); clear hle))
                        | ((go_at_call 54; (with_reducible refine (rsp_any c _ HLc.out).mono ?_); rintro e w3 ⟨x3, hx3, rfl, hb3⟩ <;> (rw [H2.out] at hx3; subst hx3; dsimp only [rspB]; have kk3 := HK.out w3 (by (repeat (first | (with_reducible exact Up.refl _) | (with_reducible assumption) | (with_reducible refine Up.alloc ?_ _) | (with_reducible refine Up.drew ?_) | ((with_reducible refine Up.set ?_ ?_ _); rotate_left; focus (first | omega | (simp; done) | (simp; omega))) | (with_reducible refine Up.drewN ?_ _) | (with_reducible refine Up.call ?_ (by with_reducible assumption))))); obtain ⟨q0, q1, q2, q3⟩ := kk3)) <;> (have hle := Up.le hb3; (try simp only [World.size_alloc, World.size_setCell, World.size_drew, World.heap_drewN] at hle); (try (have _ : g < w3.heap.size := (by omega))); clear hle))
                        | ((go_at_call 17; (with_reducible refine (rread_any d HLd.out _).mono ?_); rintro e w4 ⟨x4, hx4, rfl, hb4⟩ <;> (rw [HD.out] at hx4; subst hx4; dsimp only [rdR])) <;> (have hle := Up.le hb4; (try simp only [World.size_alloc, World.size_setCell, World.size_drew, World.heap_drewN] at hle); (try (have _ : w3.heap.size < w4.heap.size := (by omega); (first | ((apply fk hb4 (w3.heap.size); (focus (go_simp; rfl)); (focus (intro o; go_simp)); intro z; (try clear f3_0); have f3_0 := z; clear z)) | skip); (try (apply fko hb4 (w3.heap.size) 0; (focus (go_simp; rfl)); (focus (go_simp; done)); intro z; (try clear g3_0_0); have g3_0_0 := z; clear z)); (try (apply fko hb4 (w3.heap.size) 1; (focus (go_simp; rfl)); (focus (go_simp; done)); intro z; (try clear g3_0_1); have g3_0_1 := z; clear z)); (try (apply ck hb4 (w3.heap.size) 0; (focus (go_simp; rfl)); intro z; (try clear c3_0_0); have c3_0_0 := z; clear z)); (try (apply ck hb4 (w3.heap.size) 1; (focus (go_simp; rfl)); intro z; (try clear c3_0_1); have c3_0_1 := z; clear z)))); (try (have _ : g < w4.heap.size := (by omega))); clear hle))
                        | ((go_at_call 63; (with_reducible refine (rpoly_any A1 p m1 _ HPL.out (HR1.out.up (by (repeat (first | (with_reducible exact Up.refl _) | (with_reducible assumption) | (with_reducible refine Up.alloc ?_ _) | (with_reducible refine Up.drew ?_) | ((with_reducible refine Up.set ?_ ?_ _); rotate_left; focus (first | omega | (simp; done) | (simp; omega))) | (with_reducible refine Up.drewN ?_ _) | (with_reducible refine Up.call ?_ (by with_reducible assumption))))))).mono ?_); rintro e w5 ⟨x5, hx5, rfl, hb5⟩ <;> (rw [HP.out] at hx5; subst hx5)) <;> (have hle := Up.le hb5; (try simp only [World.size_alloc, World.size_setCell, World.size_drew, World.heap_drewN] at hle); (try (have _ : w3.heap.size < w5.heap.size := (by omega); (first | ((apply fk hb5 (w3.heap.size); (focus (go_simp; rfl)); (focus (intro o; go_simp)); intro z; (try clear f3_0); have f3_0 := z; clear z)) | skip); (try (apply fko hb5 (w3.heap.size) 0; (focus (go_simp; rfl)); (focus (go_simp; done)); intro z; (try clear g3_0_0); have g3_0_0 := z; clear z)); (try (apply fko hb5 (w3.heap.size) 1; (focus (go_simp; rfl)); (focus (go_simp; done)); intro z; (try clear g3_0_1); have g3_0_1 := z; clear z)); (try (apply ck hb5 (w3.heap.size) 0; (focus (go_simp; rfl)); intro z; (try clear c3_0_0); have c3_0_0 := z; clear z)); (try (apply ck hb5 (w3.heap.size) 1; (focus (go_simp; rfl)); intro z; (try clear c3_0_1); have c3_0_1 := z; clear z)))); (try (have _ : g < w5.heap.size := (by omega))); clear hle))
                        | ((go_at_call 60; (with_reducible refine (HN1.out _).mono ?_); rintro e w6 ⟨x6, rfl, rfl, hb6⟩) <;> (have hle := Up.le hb6; (try simp only [World.size_alloc, World.size_setCell, World.size_drew, World.heap_drewN] at hle); (try (have _ : w3.heap.size < w6.heap.size := (by omega); (first | ((apply fk hb6 (w3.heap.size); (focus (go_simp; rfl)); (focus (intro o; go_simp)); intro z; (try clear f3_0); have f3_0 := z; clear z)) | skip); (try (apply fko hb6 (w3.heap.size) 0; (focus (go_simp; rfl)); (focus (go_simp; done)); intro z; (try clear g3_0_0); have g3_0_0 := z; clear z)); (try (apply fko hb6 (w3.heap.size) 1; (focus (go_simp; rfl)); (focus (go_simp; done)); intro z; (try clear g3_0_1); have g3_0_1 := z; clear z)); (try (apply ck hb6 (w3.heap.size) 0; (focus (go_simp; rfl)); intro z; (try clear c3_0_0); have c3_0_0 := z; clear z)); (try (apply ck hb6 (w3.heap.size) 1; (focus (go_simp; rfl)); intro z; (try clear c3_0_1); have c3_0_1 := z; clear z)))); (try (have _ : g < w6.heap.size := (by omega))); clear hle)))
    go_ret
    exact RetX.mk (nameF 1) (by (repeat (first | (with_reducible exact Up.refl _) | (with_reducible assumption) | (with_reducible refine Up.alloc ?_ _) | (with_reducible refine Up.drew ?_) | ((with_reducible refine Up.set ?_ ?_ _); rotate_left; focus (first | omega | (simp; done) | (simp; omega))) | (with_reducible refine Up.drewN ?_ _) | (with_reducible refine Up.call ?_ (by with_reducible assumption))))) HF.out rfl
  · have hn1 : 1 ≤ n := by omega
    have hn2 : n ≤ 1000000000 := (parse_M hd).2
    have hnd : decide (n < 1) = false := decide_eq_false hn
    have HG := hid (by have := roots_good r1 r2 hd hp hn1; rw [← HFF.out] at this; exact this : ansF (overLF F b c) = ansF (toldL (findG p n (x.hi - x.lo).toNat x [])))
    have HFI := hid (fun A m W (hm : p.length ≤ m) hW => rfind0_any A p m x.lo x.hi n W h0' h5 hm hpM HX.out hn1 hn2 hW)
    cases hf : findG p n (x.hi - x.lo).toNat x [] with
    | error e =>
      have HF := hid (show ansF (overLF F b c) = nameF e by rw [HG.out, hf]; rfl)
      obtain ⟨h1, h2⟩ := fg_num hn1 hf
      have HN := hid h2
      have hz : ((e : Int) == 0) = false := beq_eq_false_iff_ne.2 (by omega)
      have hz2 : ((e : Int) != 0) = true := by simp; omega
      obtain ⟨e1, e2⟩ := x
      dsimp only at HFI hf
      have HFF2 := hid hf
      clear r1 r2 hd hp hrt h0' h5 hpM hn1 hn2 hf h1 h2
      go_wp2_with (first
                        | ((go_at_call 62; (with_reducible refine (lnumbers_any b _ HLb.out).mono ?_); rintro e w2 ⟨x2, v2, hx2, rfl, hv2, hb2⟩ <;> (rw [H1.out] at hx2; subst hx2; obtain ⟨A1, m1, rfl, hr1, hm1⟩ := hv2; have HR1 := hid hr1; clear hr1; have kk2 := HK.out w2 (by (repeat (first | (with_reducible exact Up.refl _) | (with_reducible assumption) | (with_reducible refine Up.alloc ?_ _) | (with_reducible refine Up.drew ?_) | ((with_reducible refine Up.set ?_ ?_ _); rotate_left; focus (first | omega | (simp; done) | (simp; omega))) | (with_reducible refine Up.drewN ?_ _) | (with_reducible refine Up.call ?_ (by with_reducible assumption))))); obtain ⟨p0, p1, p2, p3⟩ := kk2)) <;> (have hle := Up.le hb2; (try simp only [World.size_alloc, World.size_setCell, World.size_drew, World.heap_drewN] at hle); (try (have _ : g < w2.heap.size := (by omega))); clear hle))
                        | ((go_at_call 54; (with_reducible refine (rsp_any c _ HLc.out).mono ?_); rintro e w3 ⟨x3, hx3, rfl, hb3⟩ <;> (rw [H2.out] at hx3; subst hx3; dsimp only [rspB]; have kk3 := HK.out w3 (by (repeat (first | (with_reducible exact Up.refl _) | (with_reducible assumption) | (with_reducible refine Up.alloc ?_ _) | (with_reducible refine Up.drew ?_) | ((with_reducible refine Up.set ?_ ?_ _); rotate_left; focus (first | omega | (simp; done) | (simp; omega))) | (with_reducible refine Up.drewN ?_ _) | (with_reducible refine Up.call ?_ (by with_reducible assumption))))); obtain ⟨q0, q1, q2, q3⟩ := kk3)) <;> (have hle := Up.le hb3; (try simp only [World.size_alloc, World.size_setCell, World.size_drew, World.heap_drewN] at hle); (try (have _ : g < w3.heap.size := (by omega))); clear hle))
                        | ((go_at_call 17; (with_reducible refine (rread_any d HLd.out _).mono ?_); rintro e w4 ⟨x4, hx4, rfl, hb4⟩ <;> (rw [HD.out] at hx4; subst hx4; dsimp only [rdR])) <;> (have hle := Up.le hb4; (try simp only [World.size_alloc, World.size_setCell, World.size_drew, World.heap_drewN] at hle); (try (have _ : w3.heap.size < w4.heap.size := (by omega); (first | ((apply fk hb4 (w3.heap.size); (focus (go_simp; rfl)); (focus (intro o; go_simp)); intro z; (try clear f3_0); have f3_0 := z; clear z)) | skip); (try (apply fko hb4 (w3.heap.size) 0; (focus (go_simp; rfl)); (focus (go_simp; done)); intro z; (try clear g3_0_0); have g3_0_0 := z; clear z)); (try (apply fko hb4 (w3.heap.size) 1; (focus (go_simp; rfl)); (focus (go_simp; done)); intro z; (try clear g3_0_1); have g3_0_1 := z; clear z)); (try (apply ck hb4 (w3.heap.size) 0; (focus (go_simp; rfl)); intro z; (try clear c3_0_0); have c3_0_0 := z; clear z)); (try (apply ck hb4 (w3.heap.size) 1; (focus (go_simp; rfl)); intro z; (try clear c3_0_1); have c3_0_1 := z; clear z)))); (try (have _ : g < w4.heap.size := (by omega))); clear hle))
                        | ((go_at_call 63; (with_reducible refine (rpoly_any A1 p m1 _ HPL.out (HR1.out.up (by (repeat (first | (with_reducible exact Up.refl _) | (with_reducible assumption) | (with_reducible refine Up.alloc ?_ _) | (with_reducible refine Up.drew ?_) | ((with_reducible refine Up.set ?_ ?_ _); rotate_left; focus (first | omega | (simp; done) | (simp; omega))) | (with_reducible refine Up.drewN ?_ _) | (with_reducible refine Up.call ?_ (by with_reducible assumption))))))).mono ?_); rintro e w5 ⟨x5, hx5, rfl, hb5⟩ <;> (rw [HP.out] at hx5; subst hx5)) <;> (have hle := Up.le hb5; (try simp only [World.size_alloc, World.size_setCell, World.size_drew, World.heap_drewN] at hle); (try (have _ : w3.heap.size < w5.heap.size := (by omega); (first | ((apply fk hb5 (w3.heap.size); (focus (go_simp; rfl)); (focus (intro o; go_simp)); intro z; (try clear f3_0); have f3_0 := z; clear z)) | skip); (try (apply fko hb5 (w3.heap.size) 0; (focus (go_simp; rfl)); (focus (go_simp; done)); intro z; (try clear g3_0_0); have g3_0_0 := z; clear z)); (try (apply fko hb5 (w3.heap.size) 1; (focus (go_simp; rfl)); (focus (go_simp; done)); intro z; (try clear g3_0_1); have g3_0_1 := z; clear z)); (try (apply ck hb5 (w3.heap.size) 0; (focus (go_simp; rfl)); intro z; (try clear c3_0_0); have c3_0_0 := z; clear z)); (try (apply ck hb5 (w3.heap.size) 1; (focus (go_simp; rfl)); intro z; (try clear c3_0_1); have c3_0_1 := z; clear z)))); (try (have _ : g < w5.heap.size := (by omega))); clear hle))
                        | ((go_at_call 66; (with_reducible refine (HFI.out A1 m1 _ hm1 (HR1.out.up (by (repeat (first | (with_reducible exact Up.refl _) | (with_reducible assumption) | (with_reducible refine Up.alloc ?_ _) | (with_reducible refine Up.drew ?_) | ((with_reducible refine Up.set ?_ ?_ _); rotate_left; focus (first | omega | (simp; done) | (simp; omega))) | (with_reducible refine Up.drewN ?_ _) | (with_reducible refine Up.call ?_ (by with_reducible assumption))))))).mono ?_); rintro e w6 ⟨x6, v6, hx6, rfl, hv6, hb6⟩ <;> (rw [HFF2.out] at hx6; subst hx6; obtain rfl := slNn_error hv6; clear hv6)) <;> (have hle := Up.le hb6; (try simp only [World.size_alloc, World.size_setCell, World.size_drew, World.heap_drewN] at hle); (try (have _ : w3.heap.size < w6.heap.size := (by omega); (first | ((apply fk hb6 (w3.heap.size); (focus (go_simp; rfl)); (focus (intro o; go_simp)); intro z; (try clear f3_0); have f3_0 := z; clear z)) | skip); (try (apply fko hb6 (w3.heap.size) 0; (focus (go_simp; rfl)); (focus (go_simp; done)); intro z; (try clear g3_0_0); have g3_0_0 := z; clear z)); (try (apply fko hb6 (w3.heap.size) 1; (focus (go_simp; rfl)); (focus (go_simp; done)); intro z; (try clear g3_0_1); have g3_0_1 := z; clear z)); (try (apply ck hb6 (w3.heap.size) 0; (focus (go_simp; rfl)); intro z; (try clear c3_0_0); have c3_0_0 := z; clear z)); (try (apply ck hb6 (w3.heap.size) 1; (focus (go_simp; rfl)); intro z; (try clear c3_0_1); have c3_0_1 := z; clear z)))); (try (have _ : g < w6.heap.size := (by omega))); clear hle))
                        | ((go_at_call 60; (with_reducible refine (rname_any e HN.out _).mono ?_); rintro e w7 ⟨x7, rfl, rfl, hb7⟩) <;> (have hle := Up.le hb7; (try simp only [World.size_alloc, World.size_setCell, World.size_drew, World.heap_drewN] at hle); (try (have _ : w3.heap.size < w7.heap.size := (by omega); (first | ((apply fk hb7 (w3.heap.size); (focus (go_simp; rfl)); (focus (intro o; go_simp)); intro z; (try clear f3_0); have f3_0 := z; clear z)) | skip); (try (apply fko hb7 (w3.heap.size) 0; (focus (go_simp; rfl)); (focus (go_simp; done)); intro z; (try clear g3_0_0); have g3_0_0 := z; clear z)); (try (apply fko hb7 (w3.heap.size) 1; (focus (go_simp; rfl)); (focus (go_simp; done)); intro z; (try clear g3_0_1); have g3_0_1 := z; clear z)); (try (apply ck hb7 (w3.heap.size) 0; (focus (go_simp; rfl)); intro z; (try clear c3_0_0); have c3_0_0 := z; clear z)); (try (apply ck hb7 (w3.heap.size) 1; (focus (go_simp; rfl)); intro z; (try clear c3_0_1); have c3_0_1 := z; clear z)))); (try (have _ : g < w7.heap.size := (by omega))); clear hle)))
      go_ret
      exact RetX.mk (nameF e) (by (repeat (first | (with_reducible exact Up.refl _) | (with_reducible assumption) | (with_reducible refine Up.alloc ?_ _) | (with_reducible refine Up.drew ?_) | ((with_reducible refine Up.set ?_ ?_ _); rotate_left; focus (first | omega | (simp; done) | (simp; omega))) | (with_reducible refine Up.drewN ?_ _) | (with_reducible refine Up.call ?_ (by with_reducible assumption))))) HF.out rfl
    | ok l =>
      have HF := hid (show ansF (overLF F b c) = textsF l by rw [HG.out, hf]; rfl)
      obtain ⟨hl32, hlw⟩ := fg_bd hrt hf
      have HL32 := hid hl32; have HLW := hid hlw
      obtain ⟨e1, e2⟩ := x
      dsimp only at HFI hf
      have HFF2 := hid hf
      clear r1 r2 hd hp hrt h0' h5 hpM hn1 hn2 hf hlw
      go_wp2_with (first
                        | ((go_at_call 62; (with_reducible refine (lnumbers_any b _ HLb.out).mono ?_); rintro e w2 ⟨x2, v2, hx2, rfl, hv2, hb2⟩ <;> (rw [H1.out] at hx2; subst hx2; obtain ⟨A1, m1, rfl, hr1, hm1⟩ := hv2; have HR1 := hid hr1; clear hr1; have kk2 := HK.out w2 (by (repeat (first | (with_reducible exact Up.refl _) | (with_reducible assumption) | (with_reducible refine Up.alloc ?_ _) | (with_reducible refine Up.drew ?_) | ((with_reducible refine Up.set ?_ ?_ _); rotate_left; focus (first | omega | (simp; done) | (simp; omega))) | (with_reducible refine Up.drewN ?_ _) | (with_reducible refine Up.call ?_ (by with_reducible assumption))))); obtain ⟨p0, p1, p2, p3⟩ := kk2)) <;> (have hle := Up.le hb2; (try simp only [World.size_alloc, World.size_setCell, World.size_drew, World.heap_drewN] at hle); (try (have _ : g < w2.heap.size := (by omega))); clear hle))
                        | ((go_at_call 54; (with_reducible refine (rsp_any c _ HLc.out).mono ?_); rintro e w3 ⟨x3, hx3, rfl, hb3⟩ <;> (rw [H2.out] at hx3; subst hx3; dsimp only [rspB]; have kk3 := HK.out w3 (by (repeat (first | (with_reducible exact Up.refl _) | (with_reducible assumption) | (with_reducible refine Up.alloc ?_ _) | (with_reducible refine Up.drew ?_) | ((with_reducible refine Up.set ?_ ?_ _); rotate_left; focus (first | omega | (simp; done) | (simp; omega))) | (with_reducible refine Up.drewN ?_ _) | (with_reducible refine Up.call ?_ (by with_reducible assumption))))); obtain ⟨q0, q1, q2, q3⟩ := kk3)) <;> (have hle := Up.le hb3; (try simp only [World.size_alloc, World.size_setCell, World.size_drew, World.heap_drewN] at hle); (try (have _ : g < w3.heap.size := (by omega))); clear hle))
                        | ((go_at_call 17; (with_reducible refine (rread_any d HLd.out _).mono ?_); rintro e w4 ⟨x4, hx4, rfl, hb4⟩ <;> (rw [HD.out] at hx4; subst hx4; dsimp only [rdR])) <;> (have hle := Up.le hb4; (try simp only [World.size_alloc, World.size_setCell, World.size_drew, World.heap_drewN] at hle); (try (have _ : w3.heap.size < w4.heap.size := (by omega); (first | ((apply fk hb4 (w3.heap.size); (focus (go_simp; rfl)); (focus (intro o; go_simp)); intro z; (try clear f3_0); have f3_0 := z; clear z)) | skip); (try (apply fko hb4 (w3.heap.size) 0; (focus (go_simp; rfl)); (focus (go_simp; done)); intro z; (try clear g3_0_0); have g3_0_0 := z; clear z)); (try (apply fko hb4 (w3.heap.size) 1; (focus (go_simp; rfl)); (focus (go_simp; done)); intro z; (try clear g3_0_1); have g3_0_1 := z; clear z)); (try (apply ck hb4 (w3.heap.size) 0; (focus (go_simp; rfl)); intro z; (try clear c3_0_0); have c3_0_0 := z; clear z)); (try (apply ck hb4 (w3.heap.size) 1; (focus (go_simp; rfl)); intro z; (try clear c3_0_1); have c3_0_1 := z; clear z)))); (try (have _ : g < w4.heap.size := (by omega))); clear hle))
                        | ((go_at_call 63; (with_reducible refine (rpoly_any A1 p m1 _ HPL.out (HR1.out.up (by (repeat (first | (with_reducible exact Up.refl _) | (with_reducible assumption) | (with_reducible refine Up.alloc ?_ _) | (with_reducible refine Up.drew ?_) | ((with_reducible refine Up.set ?_ ?_ _); rotate_left; focus (first | omega | (simp; done) | (simp; omega))) | (with_reducible refine Up.drewN ?_ _) | (with_reducible refine Up.call ?_ (by with_reducible assumption))))))).mono ?_); rintro e w5 ⟨x5, hx5, rfl, hb5⟩ <;> (rw [HP.out] at hx5; subst hx5)) <;> (have hle := Up.le hb5; (try simp only [World.size_alloc, World.size_setCell, World.size_drew, World.heap_drewN] at hle); (try (have _ : w3.heap.size < w5.heap.size := (by omega); (first | ((apply fk hb5 (w3.heap.size); (focus (go_simp; rfl)); (focus (intro o; go_simp)); intro z; (try clear f3_0); have f3_0 := z; clear z)) | skip); (try (apply fko hb5 (w3.heap.size) 0; (focus (go_simp; rfl)); (focus (go_simp; done)); intro z; (try clear g3_0_0); have g3_0_0 := z; clear z)); (try (apply fko hb5 (w3.heap.size) 1; (focus (go_simp; rfl)); (focus (go_simp; done)); intro z; (try clear g3_0_1); have g3_0_1 := z; clear z)); (try (apply ck hb5 (w3.heap.size) 0; (focus (go_simp; rfl)); intro z; (try clear c3_0_0); have c3_0_0 := z; clear z)); (try (apply ck hb5 (w3.heap.size) 1; (focus (go_simp; rfl)); intro z; (try clear c3_0_1); have c3_0_1 := z; clear z)))); (try (have _ : g < w5.heap.size := (by omega))); clear hle))
                        | ((go_at_call 66; (with_reducible refine (HFI.out A1 m1 _ hm1 (HR1.out.up (by (repeat (first | (with_reducible exact Up.refl _) | (with_reducible assumption) | (with_reducible refine Up.alloc ?_ _) | (with_reducible refine Up.drew ?_) | ((with_reducible refine Up.set ?_ ?_ _); rotate_left; focus (first | omega | (simp; done) | (simp; omega))) | (with_reducible refine Up.drewN ?_ _) | (with_reducible refine Up.call ?_ (by with_reducible assumption))))))).mono ?_); rintro e w6 ⟨x6, v6, hx6, rfl, hv6, hb6⟩ <;> (rw [HFF2.out] at hx6; subst hx6; obtain ⟨A4, k4, rfl, hr4, hk4⟩ := slNn_ok hv6; have HR4 := hid hr4; clear hv6 hr4)) <;> (have hle := Up.le hb6; (try simp only [World.size_alloc, World.size_setCell, World.size_drew, World.heap_drewN] at hle); (try (have _ : w3.heap.size < w6.heap.size := (by omega); (first | ((apply fk hb6 (w3.heap.size); (focus (go_simp; rfl)); (focus (intro o; go_simp)); intro z; (try clear f3_0); have f3_0 := z; clear z)) | skip); (try (apply fko hb6 (w3.heap.size) 0; (focus (go_simp; rfl)); (focus (go_simp; done)); intro z; (try clear g3_0_0); have g3_0_0 := z; clear z)); (try (apply fko hb6 (w3.heap.size) 1; (focus (go_simp; rfl)); (focus (go_simp; done)); intro z; (try clear g3_0_1); have g3_0_1 := z; clear z)); (try (apply ck hb6 (w3.heap.size) 0; (focus (go_simp; rfl)); intro z; (try clear c3_0_0); have c3_0_0 := z; clear z)); (try (apply ck hb6 (w3.heap.size) 1; (focus (go_simp; rfl)); intro z; (try clear c3_0_1); have c3_0_1 := z; clear z)))); (try (have _ : g < w6.heap.size := (by omega))); clear hle)))
      go_loopw [26, 27, 28] (fun v i _ wr => ∃ k : Nat, k ≤ l.length ∧ i = .int .i64 (k : Int) ∧ v = .string ⟨(glueF (l.take k)).toArray⟩ ∧ Up w6 wr) (fun _ i _ _ => l.length - (intOf i).toNat)
      case atStart => exact ⟨0, by omega, rfl, rfl, by (repeat (first | (with_reducible exact Up.refl _) | (with_reducible assumption) | (with_reducible refine Up.alloc ?_ _) | (with_reducible refine Up.drew ?_) | ((with_reducible refine Up.set ?_ ?_ _); rotate_left; focus (first | omega | (simp; done) | (simp; omega))) | (with_reducible refine Up.drewN ?_ _) | (with_reducible refine Up.call ?_ (by with_reducible assumption))))⟩
      case round =>
        obtain ⟨k, hk, rfl, rfl, hU⟩ := hrel
        have hk0 : (0 : Int) ≤ (k : Int) := by omega
        have hgl := glue_len (l := l.take k) (by rw [List.length_take]; omega) (fun q hq => HLW.out q (List.mem_of_mem_take hq))
        by_cases hlt : k < l.length
        · have hkl : (k : Int) < (l.length : Int) := by omega
          have hkd : decide ((k : Int) < (l.length : Int)) = true := decide_eq_true hkl
          obtain ⟨b4, o4, rfl, lb4, cc⟩ := HR4.out.at (by omega)
          obtain ⟨y0, y1⟩ := cc k hlt
          have j1 := ((bcell hU).1 _ _ lb4).trans y0
          have j2 := ((bcell hU).1 _ _ lb4).trans y1
          have hwd := HLW.out (l[k]?.getD ⟨0, 0⟩) (by rw [List.getElem?_eq_getElem hlt]; exact List.getElem_mem hlt)
          have hl61 := stext_len hwd
          by_cases hkz : k = 0
          · subst hkz
            have HG1 := hid (glue_first hlt rfl)
            have HWD := hid hwd; have HJ := hid hlt
            generalize l[0]?.getD ⟨0, 0⟩ = q at *
            simp only [Nat.zero_mul, Nat.add_zero] at j1 j2
            have z1 : ¬ 9223372036854775807 < (glueF (l.take 0)).length + (stextF q).length := by omega
            have hkp : decide ((0 : Int) < ((0 : Nat) : Int)) = false := rfl
            clear cc y0 y1 hwd hlt
            go_wp2_with (first
                        | ((go_at_call 22; (with_reducible refine (rstext_any q _ HWD.out).mono ?_); rintro e w7 ⟨x7, rfl, rfl, hb7⟩) <;> (have hle := Up.le hb7; (try simp only [World.size_alloc, World.size_setCell, World.size_drew, World.heap_drewN] at hle); (try (have _ : w3.heap.size < w7.heap.size := (by omega); (first | ((apply fk hb7 (w3.heap.size); (focus (go_simp; rfl)); (focus (intro o; go_simp)); intro z; (try clear f3_0); have f3_0 := z; clear z)) | skip); (try (apply fko hb7 (w3.heap.size) 0; (focus (go_simp; rfl)); (focus (go_simp; done)); intro z; (try clear g3_0_0); have g3_0_0 := z; clear z)); (try (apply fko hb7 (w3.heap.size) 1; (focus (go_simp; rfl)); (focus (go_simp; done)); intro z; (try clear g3_0_1); have g3_0_1 := z; clear z)); (try (apply ck hb7 (w3.heap.size) 0; (focus (go_simp; rfl)); intro z; (try clear c3_0_0); have c3_0_0 := z; clear z)); (try (apply ck hb7 (w3.heap.size) 1; (focus (go_simp; rfl)); intro z; (try clear c3_0_1); have c3_0_1 := z; clear z)))); (try (have _ : g < w7.heap.size := (by omega))); clear hle)))
            go_roundw
            case rel => exact ⟨1, HJ.out, by first | rfl | go_num, by rw [HG1.out]; exact congrArg Value.string (by apply ByteArray.ext; simp [glueF, Lib.join_nil]), by (repeat (first | (with_reducible exact Up.refl _) | (with_reducible assumption) | (with_reducible refine Up.alloc ?_ _) | (with_reducible refine Up.drew ?_) | ((with_reducible refine Up.set ?_ ?_ _); rotate_left; focus (first | omega | (simp; done) | (simp; omega))) | (with_reducible refine Up.drewN ?_ _) | (with_reducible refine Up.call ?_ (by with_reducible assumption))))⟩
            case measure => have := HJ.out; simp [intOf]; omega
          · have HG1 := hid (glue_next hlt (show 0 < k by omega) rfl)
            have HWD := hid hwd; have HJ := hid hlt
            have hkp : decide ((0 : Int) < (k : Int)) = true := decide_eq_true (by omega)
            have hkp2 : (0 : Int) < (k : Int) := by omega
            generalize l[k]?.getD ⟨0, 0⟩ = q at *
            generalize glueF (l.take k) = G at *
            have z1 : ¬ 9223372036854775807 < G.length + 1 := by omega
            have z2 : ¬ 9223372036854775807 < G.length + 1 + (stextF q).length := by omega
            clear cc y0 y1 hwd hlt hkz
            go_wp2_with (first
                        | ((go_at_call 22; (with_reducible refine (rstext_any q _ HWD.out).mono ?_); rintro e w7 ⟨x7, rfl, rfl, hb7⟩) <;> (have hle := Up.le hb7; (try simp only [World.size_alloc, World.size_setCell, World.size_drew, World.heap_drewN] at hle); (try (have _ : w3.heap.size < w7.heap.size := (by omega); (first | ((apply fk hb7 (w3.heap.size); (focus (go_simp; rfl)); (focus (intro o; go_simp)); intro z; (try clear f3_0); have f3_0 := z; clear z)) | skip); (try (apply fko hb7 (w3.heap.size) 0; (focus (go_simp; rfl)); (focus (go_simp; done)); intro z; (try clear g3_0_0); have g3_0_0 := z; clear z)); (try (apply fko hb7 (w3.heap.size) 1; (focus (go_simp; rfl)); (focus (go_simp; done)); intro z; (try clear g3_0_1); have g3_0_1 := z; clear z)); (try (apply ck hb7 (w3.heap.size) 0; (focus (go_simp; rfl)); intro z; (try clear c3_0_0); have c3_0_0 := z; clear z)); (try (apply ck hb7 (w3.heap.size) 1; (focus (go_simp; rfl)); intro z; (try clear c3_0_1); have c3_0_1 := z; clear z)))); (try (have _ : g < w7.heap.size := (by omega))); clear hle)))
            go_roundw
            case rel => exact ⟨k + 1, HJ.out, by go_num, by rw [HG1.out]; exact congrArg Value.string (by apply ByteArray.ext; simp), by (repeat (first | (with_reducible exact Up.refl _) | (with_reducible assumption) | (with_reducible refine Up.alloc ?_ _) | (with_reducible refine Up.drew ?_) | ((with_reducible refine Up.set ?_ ?_ _); rotate_left; focus (first | omega | (simp; done) | (simp; omega))) | (with_reducible refine Up.drewN ?_ _) | (with_reducible refine Up.call ?_ (by with_reducible assumption))))⟩
            case measure => have := HJ.out; simp [intOf]; omega
        · obtain rfl : k = l.length := by omega
          have hkl : ¬ (l.length : Int) < (l.length : Int) := by omega
          have hkd : decide ((l.length : Int) < (l.length : Int)) = false := decide_eq_false hkl
          rw [List.take_length] at hgl ⊢
          by_cases hz : l = []
          · subst hz
            have HF2 := hid (show ansF (overLF F b c) = [45] by rw [HF.out]; rfl)
            show Code.wp _ _ _ _ _
            go_wp2
            go_ret
            exact RetX.mk ([45] : List UInt8) (by (repeat (first | (with_reducible exact Up.refl _) | (with_reducible assumption) | (with_reducible refine Up.alloc ?_ _) | (with_reducible refine Up.drew ?_) | ((with_reducible refine Up.set ?_ ?_ _); rotate_left; focus (first | omega | (simp; done) | (simp; omega))) | (with_reducible refine Up.drewN ?_ _) | (with_reducible refine Up.call ?_ (by with_reducible assumption))))) HF2.out rfl
          · have HF2 := hid (show ansF (overLF F b c) = glueF l by rw [HF.out, texts_glue hz])
            have hpos := glue_pos hz
            generalize glueF l = G at *
            have hne : (G == []) = false := beq_eq_false_iff_ne.2 (fun e => by rw [e] at hpos; simp at hpos)
            have hne2 : ¬ G = [] := fun e => by rw [e] at hpos; simp at hpos
            clear hz
            go_wp2
            go_ret
            exact RetX.mk G (by (repeat (first | (with_reducible exact Up.refl _) | (with_reducible assumption) | (with_reducible refine Up.alloc ?_ _) | (with_reducible refine Up.drew ?_) | ((with_reducible refine Up.set ?_ ?_ _); rotate_left; focus (first | omega | (simp; done) | (simp; omega))) | (with_reducible refine Up.drewN ?_ _) | (with_reducible refine Up.call ?_ (by with_reducible assumption))))) HF2.out rfl
end Go.Proofs.YtmjcnpolnknkkaaGreatDoor

set_option linter.unusedVariables false
set_option linter.unusedSimpArgs false
namespace Go.Proofs.YtmjcnpolnknkkaaGreatDoor
open Go.RowKit

set_option maxRecDepth 100000 in
set_option maxHeartbeats 16000000 in
/-- Three words, of which the first one is none. -/
theorem rline_no3 (s a b c : List UInt8) (w : World) (hs : s.length ≤ 4000) (h : splitF 32 s = [a, b, c]) (ho : opF a = none) (h1 : ¬ a = wPower) (h2 : ¬ a = wRange) (h3 : ¬ a = wNewton) : Calls Tryz.prog 21 #[.string ⟨s.toArray⟩] w (RetX strV [98, 97, 100] w) := by
  have HS := hid (fun W => show Calls Tryz.prog 20 #[.string ⟨s.toArray⟩, .int .u8 32] W (RetR wdR [a, b, c] W) from by have := rcut_any 32 s W (by omega); rw [h] at this; exact this)
  obtain ⟨n0, n1, n2, n3, n4, n5⟩ := op_not ho
  have nP : (a == [112, 111, 119, 101, 114]) = false := beq_eq_false_iff_ne.2 h1
  have nR : (a == [114, 97, 110, 103, 101]) = false := beq_eq_false_iff_ne.2 h2
  have nN : (a == [110, 101, 119, 116, 111, 110]) = false := beq_eq_false_iff_ne.2 h3
  clear h hs ho h1 h2 h3
  go_enter Tryz.func21, Tryz.ntmps21
  go_wp2_with (first
                        | ((go_at_call 20; (with_reducible refine (HS.out _).mono ?_); rintro e w1 ⟨x1, v1, rfl, rfl, hv1, hb1⟩ <;> (obtain ⟨g, cg, rfl, hcg, hg, hk⟩ := wd3 hv1; obtain ⟨k0, k1, k2⟩ := hk w1 (Up.refl _); clear hk hv1)) <;> (have hle := Up.le hb1; (try simp only [World.size_alloc, World.size_setCell, World.size_drew, World.heap_drewN] at hle); clear hle)))
  go_ret
  exact RetX.mk ([98, 97, 100] : List UInt8) (by (repeat (first | (with_reducible exact Up.refl _) | (with_reducible assumption) | (with_reducible refine Up.alloc ?_ _) | (with_reducible refine Up.drew ?_) | ((with_reducible refine Up.set ?_ ?_ _); rotate_left; focus (first | omega | (simp; done) | (simp; omega))) | (with_reducible refine Up.drewN ?_ _) | (with_reducible refine Up.call ?_ (by with_reducible assumption))))) rfl rfl
set_option maxRecDepth 100000 in
set_option maxHeartbeats 16000000 in
theorem rline_no4 (s a b c d : List UInt8) (w : World) (hs : s.length ≤ 4000) (h : splitF 32 s = [a, b, c, d]) (h1 : ¬ a = wRoots) : Calls Tryz.prog 21 #[.string ⟨s.toArray⟩] w (RetX strV [98, 97, 100] w) := by
  have HS := hid (fun W => show Calls Tryz.prog 20 #[.string ⟨s.toArray⟩, .int .u8 32] W (RetR wdR [a, b, c, d] W) from by have := rcut_any 32 s W (by omega); rw [h] at this; exact this)
  have nO : (a == [114, 111, 111, 116, 115]) = false := beq_eq_false_iff_ne.2 h1
  clear h hs h1
  go_enter Tryz.func21, Tryz.ntmps21
  go_wp2_with (first
                        | ((go_at_call 20; (with_reducible refine (HS.out _).mono ?_); rintro e w1 ⟨x1, v1, rfl, rfl, hv1, hb1⟩ <;> (obtain ⟨g, cg, rfl, hcg, hg, hk⟩ := wd4 hv1; obtain ⟨k0, k1, k2, k3⟩ := hk w1 (Up.refl _); clear hk hv1)) <;> (have hle := Up.le hb1; (try simp only [World.size_alloc, World.size_setCell, World.size_drew, World.heap_drewN] at hle); clear hle)))
  go_ret
  exact RetX.mk ([98, 97, 100] : List UInt8) (by (repeat (first | (with_reducible exact Up.refl _) | (with_reducible assumption) | (with_reducible refine Up.alloc ?_ _) | (with_reducible refine Up.drew ?_) | ((with_reducible refine Up.set ?_ ?_ _); rotate_left; focus (first | omega | (simp; done) | (simp; omega))) | (with_reducible refine Up.drewN ?_ _) | (with_reducible refine Up.call ?_ (by with_reducible assumption))))) rfl rfl
set_option maxRecDepth 100000 in
set_option maxHeartbeats 16000000 in
theorem rline_none (s : List UInt8) (w : World) (hs : s.length ≤ 4000) (h3 : (splitF 32 s).length ≠ 3) (h4 : (splitF 32 s).length ≠ 4) : Calls Tryz.prog 21 #[.string ⟨s.toArray⟩] w (RetX strV [98, 97, 100] w) := by
  have HS := hid (fun W => show Calls Tryz.prog 20 #[.string ⟨s.toArray⟩, .int .u8 32] W (RetR wdR (splitF 32 s) W) from rcut_any 32 s W (by omega))
  have hl := (split_len 32 s).1
  generalize splitF 32 s = ws at *
  have n3 : ((ws.length : Int) == 3) = false := beq_eq_false_iff_ne.2 (by omega)
  have n4 : ((ws.length : Int) == 4) = false := beq_eq_false_iff_ne.2 (by omega)
  clear hs h3 h4
  go_enter Tryz.func21, Tryz.ntmps21
  go_wp2_with (first
                        | ((go_at_call 20; (with_reducible refine (HS.out _).mono ?_); rintro e w1 ⟨x1, v1, rfl, rfl, hv1, hb1⟩ <;> (obtain ⟨g, cg, rfl, hg, hcg, hk⟩ := hv1; clear hk)) <;> (have hle := Up.le hb1; (try simp only [World.size_alloc, World.size_setCell, World.size_drew, World.heap_drewN] at hle); clear hle)))
  go_ret
  exact RetX.mk ([98, 97, 100] : List UInt8) (by (repeat (first | (with_reducible exact Up.refl _) | (with_reducible assumption) | (with_reducible refine Up.alloc ?_ _) | (with_reducible refine Up.drew ?_) | ((with_reducible refine Up.set ?_ ?_ _); rotate_left; focus (first | omega | (simp; done) | (simp; omega))) | (with_reducible refine Up.drewN ?_ _) | (with_reducible refine Up.call ?_ (by with_reducible assumption))))) rfl rfl
theorem rline_any (s : List UInt8) (w : World) (hs : s.length ≤ 4000) : Calls Tryz.prog 21 #[.string ⟨s.toArray⟩] w (RetX strV (answerF s) w) := by
  rw [answer_ans]
  rcases line_ways s with ⟨a, b, c, h, hf⟩ | ⟨a, b, c, d, h, hf⟩ | ⟨h3, h4, hf⟩
  · rw [hf]
    unfold line3F
    cases ho : opF a with
    | some f => exact rline_op s a b c w hs h ho
    | none =>
      dsimp only
      by_cases h1 : a = wPower
      · rw [if_pos h1]
        exact rline_power s a b c w hs h ho h1
      · rw [if_neg h1]
        by_cases h2 : a = wRange
        · rw [if_pos h2]
          exact rline_range s a b c w hs h ho h2 rfl
        · rw [if_neg h2]
          by_cases h3 : a = wNewton
          · rw [if_pos h3]
            exact rline_newton s a b c w hs h ho h3 rfl
          · rw [if_neg h3]
            exact rline_no3 s a b c w hs h ho h1 h2 h3
  · rw [hf]
    unfold line4F
    by_cases h1 : a = wRoots
    · rw [if_pos h1]
      exact rline_roots s a b c d w hs h h1 rfl
    · rw [if_neg h1]
      exact rline_no4 s a b c d w hs h h1
  · rw [hf]
    exact rline_none s w hs h3 h4
end Go.Proofs.YtmjcnpolnknkkaaGreatDoor
