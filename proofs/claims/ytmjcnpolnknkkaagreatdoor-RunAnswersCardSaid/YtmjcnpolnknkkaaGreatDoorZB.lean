/- Sessions, the reference: a line of a polynomial's range over a span. Sessions, the reference: a line of nearer and nearer. -/
import Derived.Test.YtmjcnpolnknkkaaGreatDoorZ9
import Derived.Test.YtmjcnpolnknkkaaGreatDoorPRfe
import Derived.BigGuard
import Derived.Deep.DeepCutAuto
import Derived.Test.YtmjcnpolnknkkaaGreatDoorPRfr
set_option linter.unusedVariables false
set_option linter.unusedSimpArgs false
namespace Go.Proofs.YtmjcnpolnknkkaaGreatDoor
open Go.RowKit








set_option maxRecDepth 100000 in
set_option maxHeartbeats 16000000 in
theorem rline_range (s a b c : List UInt8) (w : World) (hs : s.length ≤ 4000) (h : splitF 32 s = [a, b, c]) (ho : opF a = none) (h0 : a = wRange) {F : List Int → Sp → Except (Option Nat) (List UInt8)} (hFF : F = fun p x => told2 (mrangeF p x)) : Calls Tryz.prog 21 #[.string ⟨s.toArray⟩] w (RetX strV (ansF (overLF F b c)) w) := by
  have nP : (a == [112, 111, 119, 101, 114]) = false := by rw [h0]; rfl
  have nR : (a == [114, 97, 110, 103, 101]) = true := by rw [h0]; rfl
  have nN : (a == [110, 101, 119, 116, 111, 110]) = false := by rw [h0]; rfl
  have HFF := hid hFF
  clear hFF
  have HS := hid (fun W => show Calls Tryz.prog 20 #[.string ⟨s.toArray⟩, .int .u8 32] W (RetR wdR [a, b, c] W) from by have := rcut_any 32 s W (by omega); rw [h] at this; exact this)
  have hl := (split_len 32 s).2
  rw [h] at hl
  have HLb := hid (Nat.le_trans (hl b (by simp)) hs); have HLc := hid (Nat.le_trans (hl c (by simp)) hs)
  obtain ⟨n0, n1, n2, n3, n4, n5⟩ := op_not ho
  clear h hs hl ho h0
  go_enter Tryz.func21, Tryz.ntmps21
  go_upto_region 2 with (first
    | ((go_at_call 20; (with_reducible refine (HS.out _).mono ?_); rintro e w1 ⟨x1, v1, rfl, rfl, hv1, hb1⟩ <;> (obtain ⟨g, cg, rfl, hcg, hg, hk⟩ := wd3 hv1; have HK := hid hk; obtain ⟨k0, k1, k2⟩ := hk w1 (Up.refl _); clear hk hv1)) <;> (have hle := Up.le hb1; (try simp only [World.size_alloc, World.size_setCell, World.size_drew, World.heap_drewN] at hle); (try (have _ : g < w1.heap.size := (by omega))); clear hle)))
  go_cut [69] from 31 to 69 (fun t wx => t = .bool false ∧ wx = w1)
  case first =>
    as_aux_lemma =>
    go_wp2
    go_meet
    exact ⟨rfl, rfl⟩
  case rest =>
  obtain ⟨rfl, hw⟩ := hcut
  have hw2 := hw.symm
  subst hw2
  clear hw n0 n1 n2 n3 n4 n5
  cases r1 : rnumsF b with
  | none =>
    have H1 := hid r1; have HF := hid (ahead_not (f := F) (c := c) (.inl r1))
    clear r1
    cases r2 : spanF c with
    | none =>
      have H2 := hid r2
      clear r2
      go_wp2_with (first
                        | ((go_at_call 62; (with_reducible refine (lnumbers_any b _ HLb.out).mono ?_); rintro e w2 ⟨x2, v2, hx2, rfl, hv2, hb2⟩ <;> (rw [H1.out] at hx2; subst hx2; obtain rfl := hv2; have kk2 := HK.out w2 (by (repeat (first | (with_reducible exact Up.refl _) | (with_reducible assumption) | (with_reducible refine Up.alloc ?_ _) | (with_reducible refine Up.drew ?_) | ((with_reducible refine Up.set ?_ ?_ _); rotate_left; focus (first | omega | (simp; done) | (simp; omega))) | (with_reducible refine Up.drewN ?_ _) | (with_reducible refine Up.call ?_ (by with_reducible assumption))))); obtain ⟨p0, p1, p2⟩ := kk2)) <;> (have hle := Up.le hb2; (try simp only [World.size_alloc, World.size_setCell, World.size_drew, World.heap_drewN] at hle); (try (have _ : g < w2.heap.size := (by omega))); clear hle))
                        | ((go_at_call 54; (with_reducible refine (rsp_any c _ HLc.out).mono ?_); rintro e w3 ⟨x3, hx3, rfl, hb3⟩ <;> (rw [H2.out] at hx3; subst hx3; dsimp only [rspB]; have kk3 := HK.out w3 (by (repeat (first | (with_reducible exact Up.refl _) | (with_reducible assumption) | (with_reducible refine Up.alloc ?_ _) | (with_reducible refine Up.drew ?_) | ((with_reducible refine Up.set ?_ ?_ _); rotate_left; focus (first | omega | (simp; done) | (simp; omega))) | (with_reducible refine Up.drewN ?_ _) | (with_reducible refine Up.call ?_ (by with_reducible assumption))))); obtain ⟨q0, q1, q2⟩ := kk3)) <;> (have hle := Up.le hb3; (try simp only [World.size_alloc, World.size_setCell, World.size_drew, World.heap_drewN] at hle); (try (have _ : g < w3.heap.size := (by omega))); clear hle)))
      go_ret
      exact RetX.mk ([98, 97, 100] : List UInt8) (by (repeat (first | (with_reducible exact Up.refl _) | (with_reducible assumption) | (with_reducible refine Up.alloc ?_ _) | (with_reducible refine Up.drew ?_) | ((with_reducible refine Up.set ?_ ?_ _); rotate_left; focus (first | omega | (simp; done) | (simp; omega))) | (with_reducible refine Up.drewN ?_ _) | (with_reducible refine Up.call ?_ (by with_reducible assumption))))) HF.out rfl
    | some x =>
      have H2 := hid r2
      obtain ⟨e1, e2⟩ := x
      clear r2
      go_wp2_with (first
                        | ((go_at_call 62; (with_reducible refine (lnumbers_any b _ HLb.out).mono ?_); rintro e w2 ⟨x2, v2, hx2, rfl, hv2, hb2⟩ <;> (rw [H1.out] at hx2; subst hx2; obtain rfl := hv2; have kk2 := HK.out w2 (by (repeat (first | (with_reducible exact Up.refl _) | (with_reducible assumption) | (with_reducible refine Up.alloc ?_ _) | (with_reducible refine Up.drew ?_) | ((with_reducible refine Up.set ?_ ?_ _); rotate_left; focus (first | omega | (simp; done) | (simp; omega))) | (with_reducible refine Up.drewN ?_ _) | (with_reducible refine Up.call ?_ (by with_reducible assumption))))); obtain ⟨p0, p1, p2⟩ := kk2)) <;> (have hle := Up.le hb2; (try simp only [World.size_alloc, World.size_setCell, World.size_drew, World.heap_drewN] at hle); (try (have _ : g < w2.heap.size := (by omega))); clear hle))
                        | ((go_at_call 54; (with_reducible refine (rsp_any c _ HLc.out).mono ?_); rintro e w3 ⟨x3, hx3, rfl, hb3⟩ <;> (rw [H2.out] at hx3; subst hx3; dsimp only [rspB]; have kk3 := HK.out w3 (by (repeat (first | (with_reducible exact Up.refl _) | (with_reducible assumption) | (with_reducible refine Up.alloc ?_ _) | (with_reducible refine Up.drew ?_) | ((with_reducible refine Up.set ?_ ?_ _); rotate_left; focus (first | omega | (simp; done) | (simp; omega))) | (with_reducible refine Up.drewN ?_ _) | (with_reducible refine Up.call ?_ (by with_reducible assumption))))); obtain ⟨q0, q1, q2⟩ := kk3)) <;> (have hle := Up.le hb3; (try simp only [World.size_alloc, World.size_setCell, World.size_drew, World.heap_drewN] at hle); (try (have _ : g < w3.heap.size := (by omega))); clear hle)))
      go_ret
      exact RetX.mk ([98, 97, 100] : List UInt8) (by (repeat (first | (with_reducible exact Up.refl _) | (with_reducible assumption) | (with_reducible refine Up.alloc ?_ _) | (with_reducible refine Up.drew ?_) | ((with_reducible refine Up.set ?_ ?_ _); rotate_left; focus (first | omega | (simp; done) | (simp; omega))) | (with_reducible refine Up.drewN ?_ _) | (with_reducible refine Up.call ?_ (by with_reducible assumption))))) HF.out rfl
  | some p =>
  cases r2 : spanF c with
  | none =>
    have H1 := hid r1; have HF := hid (ahead_not (f := F) (b := b) (.inr r2))
    have H2 := hid r2
    clear r1 r2
    go_wp2_with (first
                        | ((go_at_call 62; (with_reducible refine (lnumbers_any b _ HLb.out).mono ?_); rintro e w2 ⟨x2, v2, hx2, rfl, hv2, hb2⟩ <;> (rw [H1.out] at hx2; subst hx2; obtain ⟨A1, m1, rfl, hr1, hm1⟩ := hv2; have HR1 := hid hr1; clear hr1; have kk2 := HK.out w2 (by (repeat (first | (with_reducible exact Up.refl _) | (with_reducible assumption) | (with_reducible refine Up.alloc ?_ _) | (with_reducible refine Up.drew ?_) | ((with_reducible refine Up.set ?_ ?_ _); rotate_left; focus (first | omega | (simp; done) | (simp; omega))) | (with_reducible refine Up.drewN ?_ _) | (with_reducible refine Up.call ?_ (by with_reducible assumption))))); obtain ⟨p0, p1, p2⟩ := kk2)) <;> (have hle := Up.le hb2; (try simp only [World.size_alloc, World.size_setCell, World.size_drew, World.heap_drewN] at hle); (try (have _ : g < w2.heap.size := (by omega))); clear hle))
                        | ((go_at_call 54; (with_reducible refine (rsp_any c _ HLc.out).mono ?_); rintro e w3 ⟨x3, hx3, rfl, hb3⟩ <;> (rw [H2.out] at hx3; subst hx3; dsimp only [rspB]; have kk3 := HK.out w3 (by (repeat (first | (with_reducible exact Up.refl _) | (with_reducible assumption) | (with_reducible refine Up.alloc ?_ _) | (with_reducible refine Up.drew ?_) | ((with_reducible refine Up.set ?_ ?_ _); rotate_left; focus (first | omega | (simp; done) | (simp; omega))) | (with_reducible refine Up.drewN ?_ _) | (with_reducible refine Up.call ?_ (by with_reducible assumption))))); obtain ⟨q0, q1, q2⟩ := kk3)) <;> (have hle := Up.le hb3; (try simp only [World.size_alloc, World.size_setCell, World.size_drew, World.heap_drewN] at hle); (try (have _ : g < w3.heap.size := (by omega))); clear hle)))
    go_ret
    exact RetX.mk ([98, 97, 100] : List UInt8) (by (repeat (first | (with_reducible exact Up.refl _) | (with_reducible assumption) | (with_reducible refine Up.alloc ?_ _) | (with_reducible refine Up.drew ?_) | ((with_reducible refine Up.set ?_ ?_ _); rotate_left; focus (first | omega | (simp; done) | (simp; omega))) | (with_reducible refine Up.drewN ?_ _) | (with_reducible refine Up.call ?_ (by with_reducible assumption))))) HF.out rfl
  | some x =>
  have H1 := hid r1; have H2 := hid r2
  have HPL := hid (show p.length ≤ 9223372036854775807 by have := rnums_len r1; have := HLb.out; omega)
  have hrt := span_rt r2
  have HX := hid hrt
  cases hp : pcheckF p with
  | some e =>
    have HP := hid hp
    have HF := hid (by have := range_bad r1 r2 hp; rw [← HFF.out] at this; exact this : ansF (overLF F b c) = nameF e)
    obtain ⟨h1, h2⟩ := pc_num hp
    have HN := hid h2
    have hz : ((e : Int) == 0) = false := beq_eq_false_iff_ne.2 (by omega)
    have hz2 : ((e : Int) != 0) = true := by simp; omega
    obtain ⟨e1, e2⟩ := x
    clear r1 r2 hp hrt h1 h2
    go_wp2_with (first
                        | ((go_at_call 62; (with_reducible refine (lnumbers_any b _ HLb.out).mono ?_); rintro e w2 ⟨x2, v2, hx2, rfl, hv2, hb2⟩ <;> (rw [H1.out] at hx2; subst hx2; obtain ⟨A1, m1, rfl, hr1, hm1⟩ := hv2; have HR1 := hid hr1; clear hr1; have kk2 := HK.out w2 (by (repeat (first | (with_reducible exact Up.refl _) | (with_reducible assumption) | (with_reducible refine Up.alloc ?_ _) | (with_reducible refine Up.drew ?_) | ((with_reducible refine Up.set ?_ ?_ _); rotate_left; focus (first | omega | (simp; done) | (simp; omega))) | (with_reducible refine Up.drewN ?_ _) | (with_reducible refine Up.call ?_ (by with_reducible assumption))))); obtain ⟨p0, p1, p2⟩ := kk2)) <;> (have hle := Up.le hb2; (try simp only [World.size_alloc, World.size_setCell, World.size_drew, World.heap_drewN] at hle); (try (have _ : g < w2.heap.size := (by omega))); clear hle))
                        | ((go_at_call 54; (with_reducible refine (rsp_any c _ HLc.out).mono ?_); rintro e w3 ⟨x3, hx3, rfl, hb3⟩ <;> (rw [H2.out] at hx3; subst hx3; dsimp only [rspB]; have kk3 := HK.out w3 (by (repeat (first | (with_reducible exact Up.refl _) | (with_reducible assumption) | (with_reducible refine Up.alloc ?_ _) | (with_reducible refine Up.drew ?_) | ((with_reducible refine Up.set ?_ ?_ _); rotate_left; focus (first | omega | (simp; done) | (simp; omega))) | (with_reducible refine Up.drewN ?_ _) | (with_reducible refine Up.call ?_ (by with_reducible assumption))))); obtain ⟨q0, q1, q2⟩ := kk3)) <;> (have hle := Up.le hb3; (try simp only [World.size_alloc, World.size_setCell, World.size_drew, World.heap_drewN] at hle); (try (have _ : g < w3.heap.size := (by omega))); clear hle))
                        | ((go_at_call 63; (with_reducible refine (rpoly_any A1 p m1 _ HPL.out (HR1.out.up (by (repeat (first | (with_reducible exact Up.refl _) | (with_reducible assumption) | (with_reducible refine Up.alloc ?_ _) | (with_reducible refine Up.drew ?_) | ((with_reducible refine Up.set ?_ ?_ _); rotate_left; focus (first | omega | (simp; done) | (simp; omega))) | (with_reducible refine Up.drewN ?_ _) | (with_reducible refine Up.call ?_ (by with_reducible assumption))))))).mono ?_); rintro e w4 ⟨x4, hx4, rfl, hb4⟩ <;> (rw [HP.out] at hx4; subst hx4)) <;> (have hle := Up.le hb4; (try simp only [World.size_alloc, World.size_setCell, World.size_drew, World.heap_drewN] at hle); (try (have _ : w3.heap.size < w4.heap.size := (by omega); (first | ((apply fk hb4 (w3.heap.size); (focus (go_simp; rfl)); (focus (intro o; go_simp)); intro z; (try clear f3_0); have f3_0 := z; clear z)) | skip); (try (apply fko hb4 (w3.heap.size) 0; (focus (go_simp; rfl)); (focus (go_simp; done)); intro z; (try clear g3_0_0); have g3_0_0 := z; clear z)); (try (apply fko hb4 (w3.heap.size) 1; (focus (go_simp; rfl)); (focus (go_simp; done)); intro z; (try clear g3_0_1); have g3_0_1 := z; clear z)); (try (apply ck hb4 (w3.heap.size) 0; (focus (go_simp; rfl)); intro z; (try clear c3_0_0); have c3_0_0 := z; clear z)); (try (apply ck hb4 (w3.heap.size) 1; (focus (go_simp; rfl)); intro z; (try clear c3_0_1); have c3_0_1 := z; clear z)))); (try (have _ : g < w4.heap.size := (by omega))); clear hle))
                        | ((go_at_call 60; (with_reducible refine (rname_any e HN.out _).mono ?_); rintro e w5 ⟨x5, rfl, rfl, hb5⟩) <;> (have hle := Up.le hb5; (try simp only [World.size_alloc, World.size_setCell, World.size_drew, World.heap_drewN] at hle); (try (have _ : w3.heap.size < w5.heap.size := (by omega); (first | ((apply fk hb5 (w3.heap.size); (focus (go_simp; rfl)); (focus (intro o; go_simp)); intro z; (try clear f3_0); have f3_0 := z; clear z)) | skip); (try (apply fko hb5 (w3.heap.size) 0; (focus (go_simp; rfl)); (focus (go_simp; done)); intro z; (try clear g3_0_0); have g3_0_0 := z; clear z)); (try (apply fko hb5 (w3.heap.size) 1; (focus (go_simp; rfl)); (focus (go_simp; done)); intro z; (try clear g3_0_1); have g3_0_1 := z; clear z)); (try (apply ck hb5 (w3.heap.size) 0; (focus (go_simp; rfl)); intro z; (try clear c3_0_0); have c3_0_0 := z; clear z)); (try (apply ck hb5 (w3.heap.size) 1; (focus (go_simp; rfl)); intro z; (try clear c3_0_1); have c3_0_1 := z; clear z)))); (try (have _ : g < w5.heap.size := (by omega))); clear hle)))
    go_ret
    exact RetX.mk (nameF e) (by (repeat (first | (with_reducible exact Up.refl _) | (with_reducible assumption) | (with_reducible refine Up.alloc ?_ _) | (with_reducible refine Up.drew ?_) | ((with_reducible refine Up.set ?_ ?_ _); rotate_left; focus (first | omega | (simp; done) | (simp; omega))) | (with_reducible refine Up.drewN ?_ _) | (with_reducible refine Up.call ?_ (by with_reducible assumption))))) HF.out rfl
  | none =>
    have HP := hid hp
    have HF := hid (by have := range_good r1 r2 hp; rw [← HFF.out] at this; exact this : ansF (overLF F b c) = tellF (got (overF p x)) (eO (overF p x)))
    obtain ⟨h0', h5, hpM⟩ := pc_parts hp
    have hgw := got_wide (r := overF p x) (fun q hq => by obtain ⟨k1, k2⟩ := over_bd h0' hpM hq; exact m_wide k1 k2)
    have hnum := eO_num (r := overF p x) (fun n hn => by have := over_num hn; omega)
    have HTOLD := hid (fun W => rtold_any (got (overF p x)) (eO (overF p x)) W hgw hnum)
    have HR := hid (fun A m W hW => open_rf (rrange_any A p m x.lo x.hi W h0' h5 hW hpM HX.out))
    obtain ⟨e1, e2⟩ := x
    clear r1 r2 hp hrt hgw hnum h0' h5 hpM
    dsimp only at HR
    generalize overF p ⟨e1, e2⟩ = r at *
    go_wp2_with (first
                        | ((go_at_call 62; (with_reducible refine (lnumbers_any b _ HLb.out).mono ?_); rintro e w2 ⟨x2, v2, hx2, rfl, hv2, hb2⟩ <;> (rw [H1.out] at hx2; subst hx2; obtain ⟨A1, m1, rfl, hr1, hm1⟩ := hv2; have HR1 := hid hr1; clear hr1; have kk2 := HK.out w2 (by (repeat (first | (with_reducible exact Up.refl _) | (with_reducible assumption) | (with_reducible refine Up.alloc ?_ _) | (with_reducible refine Up.drew ?_) | ((with_reducible refine Up.set ?_ ?_ _); rotate_left; focus (first | omega | (simp; done) | (simp; omega))) | (with_reducible refine Up.drewN ?_ _) | (with_reducible refine Up.call ?_ (by with_reducible assumption))))); obtain ⟨p0, p1, p2⟩ := kk2)) <;> (have hle := Up.le hb2; (try simp only [World.size_alloc, World.size_setCell, World.size_drew, World.heap_drewN] at hle); (try (have _ : g < w2.heap.size := (by omega))); clear hle))
                        | ((go_at_call 54; (with_reducible refine (rsp_any c _ HLc.out).mono ?_); rintro e w3 ⟨x3, hx3, rfl, hb3⟩ <;> (rw [H2.out] at hx3; subst hx3; dsimp only [rspB]; have kk3 := HK.out w3 (by (repeat (first | (with_reducible exact Up.refl _) | (with_reducible assumption) | (with_reducible refine Up.alloc ?_ _) | (with_reducible refine Up.drew ?_) | ((with_reducible refine Up.set ?_ ?_ _); rotate_left; focus (first | omega | (simp; done) | (simp; omega))) | (with_reducible refine Up.drewN ?_ _) | (with_reducible refine Up.call ?_ (by with_reducible assumption))))); obtain ⟨q0, q1, q2⟩ := kk3)) <;> (have hle := Up.le hb3; (try simp only [World.size_alloc, World.size_setCell, World.size_drew, World.heap_drewN] at hle); (try (have _ : g < w3.heap.size := (by omega))); clear hle))
                        | ((go_at_call 63; (with_reducible refine (rpoly_any A1 p m1 _ HPL.out (HR1.out.up (by (repeat (first | (with_reducible exact Up.refl _) | (with_reducible assumption) | (with_reducible refine Up.alloc ?_ _) | (with_reducible refine Up.drew ?_) | ((with_reducible refine Up.set ?_ ?_ _); rotate_left; focus (first | omega | (simp; done) | (simp; omega))) | (with_reducible refine Up.drewN ?_ _) | (with_reducible refine Up.call ?_ (by with_reducible assumption))))))).mono ?_); rintro e w4 ⟨x4, hx4, rfl, hb4⟩ <;> (rw [HP.out] at hx4; subst hx4)) <;> (have hle := Up.le hb4; (try simp only [World.size_alloc, World.size_setCell, World.size_drew, World.heap_drewN] at hle); (try (have _ : w3.heap.size < w4.heap.size := (by omega); (first | ((apply fk hb4 (w3.heap.size); (focus (go_simp; rfl)); (focus (intro o; go_simp)); intro z; (try clear f3_0); have f3_0 := z; clear z)) | skip); (try (apply fko hb4 (w3.heap.size) 0; (focus (go_simp; rfl)); (focus (go_simp; done)); intro z; (try clear g3_0_0); have g3_0_0 := z; clear z)); (try (apply fko hb4 (w3.heap.size) 1; (focus (go_simp; rfl)); (focus (go_simp; done)); intro z; (try clear g3_0_1); have g3_0_1 := z; clear z)); (try (apply ck hb4 (w3.heap.size) 0; (focus (go_simp; rfl)); intro z; (try clear c3_0_0); have c3_0_0 := z; clear z)); (try (apply ck hb4 (w3.heap.size) 1; (focus (go_simp; rfl)); intro z; (try clear c3_0_1); have c3_0_1 := z; clear z)))); (try (have _ : g < w4.heap.size := (by omega))); clear hle))
                        | ((go_at_call 64; (with_reducible refine (HR.out A1 m1 _ (HR1.out.up (by (repeat (first | (with_reducible exact Up.refl _) | (with_reducible assumption) | (with_reducible refine Up.alloc ?_ _) | (with_reducible refine Up.drew ?_) | ((with_reducible refine Up.set ?_ ?_ _); rotate_left; focus (first | omega | (simp; done) | (simp; omega))) | (with_reducible refine Up.drewN ?_ _) | (with_reducible refine Up.call ?_ (by with_reducible assumption))))))).mono ?_); rintro e w5 ⟨rfl, hb5⟩) <;> (have hle := Up.le hb5; (try simp only [World.size_alloc, World.size_setCell, World.size_drew, World.heap_drewN] at hle); (try (have _ : w3.heap.size < w5.heap.size := (by omega); (first | ((apply fk hb5 (w3.heap.size); (focus (go_simp; rfl)); (focus (intro o; go_simp)); intro z; (try clear f3_0); have f3_0 := z; clear z)) | skip); (try (apply fko hb5 (w3.heap.size) 0; (focus (go_simp; rfl)); (focus (go_simp; done)); intro z; (try clear g3_0_0); have g3_0_0 := z; clear z)); (try (apply fko hb5 (w3.heap.size) 1; (focus (go_simp; rfl)); (focus (go_simp; done)); intro z; (try clear g3_0_1); have g3_0_1 := z; clear z)); (try (apply ck hb5 (w3.heap.size) 0; (focus (go_simp; rfl)); intro z; (try clear c3_0_0); have c3_0_0 := z; clear z)); (try (apply ck hb5 (w3.heap.size) 1; (focus (go_simp; rfl)); intro z; (try clear c3_0_1); have c3_0_1 := z; clear z)))); (try (have _ : g < w5.heap.size := (by omega))); clear hle))
                        | ((go_at_call 55; (with_reducible refine (HTOLD.out _).mono ?_); rintro e w6 ⟨x6, rfl, rfl, hb6⟩) <;> (have hle := Up.le hb6; (try simp only [World.size_alloc, World.size_setCell, World.size_drew, World.heap_drewN] at hle); (try (have _ : w3.heap.size < w6.heap.size := (by omega); (first | ((apply fk hb6 (w3.heap.size); (focus (go_simp; rfl)); (focus (intro o; go_simp)); intro z; (try clear f3_0); have f3_0 := z; clear z)) | skip); (try (apply fko hb6 (w3.heap.size) 0; (focus (go_simp; rfl)); (focus (go_simp; done)); intro z; (try clear g3_0_0); have g3_0_0 := z; clear z)); (try (apply fko hb6 (w3.heap.size) 1; (focus (go_simp; rfl)); (focus (go_simp; done)); intro z; (try clear g3_0_1); have g3_0_1 := z; clear z)); (try (apply ck hb6 (w3.heap.size) 0; (focus (go_simp; rfl)); intro z; (try clear c3_0_0); have c3_0_0 := z; clear z)); (try (apply ck hb6 (w3.heap.size) 1; (focus (go_simp; rfl)); intro z; (try clear c3_0_1); have c3_0_1 := z; clear z)))); (try (have _ : g < w6.heap.size := (by omega))); clear hle)))
    go_ret
    exact RetX.mk (tellF (got r) (eO r)) (by (repeat (first | (with_reducible exact Up.refl _) | (with_reducible assumption) | (with_reducible refine Up.alloc ?_ _) | (with_reducible refine Up.drew ?_) | ((with_reducible refine Up.set ?_ ?_ _); rotate_left; focus (first | omega | (simp; done) | (simp; omega))) | (with_reducible refine Up.drewN ?_ _) | (with_reducible refine Up.call ?_ (by with_reducible assumption))))) HF.out rfl
end Go.Proofs.YtmjcnpolnknkkaaGreatDoor

set_option linter.unusedVariables false
set_option linter.unusedSimpArgs false
namespace Go.Proofs.YtmjcnpolnknkkaaGreatDoor
open Go.RowKit








set_option maxRecDepth 100000 in
set_option maxHeartbeats 16000000 in
theorem rline_newton (s a b c : List UInt8) (w : World) (hs : s.length ≤ 4000) (h : splitF 32 s = [a, b, c]) (ho : opF a = none) (h0 : a = wNewton) {F : List Int → Sp → Except (Option Nat) (List UInt8)} (hFF : F = fun p x => told2 (nrunF p x 20)) : Calls Tryz.prog 21 #[.string ⟨s.toArray⟩] w (RetX strV (ansF (overLF F b c)) w) := by
  have nP : (a == [112, 111, 119, 101, 114]) = false := by rw [h0]; rfl
  have nR : (a == [114, 97, 110, 103, 101]) = false := by rw [h0]; rfl
  have nN : (a == [110, 101, 119, 116, 111, 110]) = true := by rw [h0]; rfl
  have HFF := hid hFF
  clear hFF
  have HS := hid (fun W => show Calls Tryz.prog 20 #[.string ⟨s.toArray⟩, .int .u8 32] W (RetR wdR [a, b, c] W) from by have := rcut_any 32 s W (by omega); rw [h] at this; exact this)
  have hl := (split_len 32 s).2
  rw [h] at hl
  have HLb := hid (Nat.le_trans (hl b (by simp)) hs); have HLc := hid (Nat.le_trans (hl c (by simp)) hs)
  obtain ⟨n0, n1, n2, n3, n4, n5⟩ := op_not ho
  clear h hs hl ho h0
  go_enter Tryz.func21, Tryz.ntmps21
  go_upto_region 2 with (first
    | ((go_at_call 20; (with_reducible refine (HS.out _).mono ?_); rintro e w1 ⟨x1, v1, rfl, rfl, hv1, hb1⟩ <;> (obtain ⟨g, cg, rfl, hcg, hg, hk⟩ := wd3 hv1; have HK := hid hk; obtain ⟨k0, k1, k2⟩ := hk w1 (Up.refl _); clear hk hv1)) <;> (have hle := Up.le hb1; (try simp only [World.size_alloc, World.size_setCell, World.size_drew, World.heap_drewN] at hle); (try (have _ : g < w1.heap.size := (by omega))); clear hle)))
  go_cut [69] from 31 to 69 (fun t wx => t = .bool false ∧ wx = w1)
  case first =>
    as_aux_lemma =>
    go_wp2
    go_meet
    exact ⟨rfl, rfl⟩
  case rest =>
  obtain ⟨rfl, hw⟩ := hcut
  have hw2 := hw.symm
  subst hw2
  clear hw n0 n1 n2 n3 n4 n5
  cases r1 : rnumsF b with
  | none =>
    have H1 := hid r1; have HF := hid (ahead_not (f := F) (c := c) (.inl r1))
    clear r1
    cases r2 : spanF c with
    | none =>
      have H2 := hid r2
      clear r2
      go_wp2_with (first
                        | ((go_at_call 62; (with_reducible refine (lnumbers_any b _ HLb.out).mono ?_); rintro e w2 ⟨x2, v2, hx2, rfl, hv2, hb2⟩ <;> (rw [H1.out] at hx2; subst hx2; obtain rfl := hv2; have kk2 := HK.out w2 (by (repeat (first | (with_reducible exact Up.refl _) | (with_reducible assumption) | (with_reducible refine Up.alloc ?_ _) | (with_reducible refine Up.drew ?_) | ((with_reducible refine Up.set ?_ ?_ _); rotate_left; focus (first | omega | (simp; done) | (simp; omega))) | (with_reducible refine Up.drewN ?_ _) | (with_reducible refine Up.call ?_ (by with_reducible assumption))))); obtain ⟨p0, p1, p2⟩ := kk2)) <;> (have hle := Up.le hb2; (try simp only [World.size_alloc, World.size_setCell, World.size_drew, World.heap_drewN] at hle); (try (have _ : g < w2.heap.size := (by omega))); clear hle))
                        | ((go_at_call 54; (with_reducible refine (rsp_any c _ HLc.out).mono ?_); rintro e w3 ⟨x3, hx3, rfl, hb3⟩ <;> (rw [H2.out] at hx3; subst hx3; dsimp only [rspB]; have kk3 := HK.out w3 (by (repeat (first | (with_reducible exact Up.refl _) | (with_reducible assumption) | (with_reducible refine Up.alloc ?_ _) | (with_reducible refine Up.drew ?_) | ((with_reducible refine Up.set ?_ ?_ _); rotate_left; focus (first | omega | (simp; done) | (simp; omega))) | (with_reducible refine Up.drewN ?_ _) | (with_reducible refine Up.call ?_ (by with_reducible assumption))))); obtain ⟨q0, q1, q2⟩ := kk3)) <;> (have hle := Up.le hb3; (try simp only [World.size_alloc, World.size_setCell, World.size_drew, World.heap_drewN] at hle); (try (have _ : g < w3.heap.size := (by omega))); clear hle)))
      go_ret
      exact RetX.mk ([98, 97, 100] : List UInt8) (by (repeat (first | (with_reducible exact Up.refl _) | (with_reducible assumption) | (with_reducible refine Up.alloc ?_ _) | (with_reducible refine Up.drew ?_) | ((with_reducible refine Up.set ?_ ?_ _); rotate_left; focus (first | omega | (simp; done) | (simp; omega))) | (with_reducible refine Up.drewN ?_ _) | (with_reducible refine Up.call ?_ (by with_reducible assumption))))) HF.out rfl
    | some x =>
      have H2 := hid r2
      obtain ⟨e1, e2⟩ := x
      clear r2
      go_wp2_with (first
                        | ((go_at_call 62; (with_reducible refine (lnumbers_any b _ HLb.out).mono ?_); rintro e w2 ⟨x2, v2, hx2, rfl, hv2, hb2⟩ <;> (rw [H1.out] at hx2; subst hx2; obtain rfl := hv2; have kk2 := HK.out w2 (by (repeat (first | (with_reducible exact Up.refl _) | (with_reducible assumption) | (with_reducible refine Up.alloc ?_ _) | (with_reducible refine Up.drew ?_) | ((with_reducible refine Up.set ?_ ?_ _); rotate_left; focus (first | omega | (simp; done) | (simp; omega))) | (with_reducible refine Up.drewN ?_ _) | (with_reducible refine Up.call ?_ (by with_reducible assumption))))); obtain ⟨p0, p1, p2⟩ := kk2)) <;> (have hle := Up.le hb2; (try simp only [World.size_alloc, World.size_setCell, World.size_drew, World.heap_drewN] at hle); (try (have _ : g < w2.heap.size := (by omega))); clear hle))
                        | ((go_at_call 54; (with_reducible refine (rsp_any c _ HLc.out).mono ?_); rintro e w3 ⟨x3, hx3, rfl, hb3⟩ <;> (rw [H2.out] at hx3; subst hx3; dsimp only [rspB]; have kk3 := HK.out w3 (by (repeat (first | (with_reducible exact Up.refl _) | (with_reducible assumption) | (with_reducible refine Up.alloc ?_ _) | (with_reducible refine Up.drew ?_) | ((with_reducible refine Up.set ?_ ?_ _); rotate_left; focus (first | omega | (simp; done) | (simp; omega))) | (with_reducible refine Up.drewN ?_ _) | (with_reducible refine Up.call ?_ (by with_reducible assumption))))); obtain ⟨q0, q1, q2⟩ := kk3)) <;> (have hle := Up.le hb3; (try simp only [World.size_alloc, World.size_setCell, World.size_drew, World.heap_drewN] at hle); (try (have _ : g < w3.heap.size := (by omega))); clear hle)))
      go_ret
      exact RetX.mk ([98, 97, 100] : List UInt8) (by (repeat (first | (with_reducible exact Up.refl _) | (with_reducible assumption) | (with_reducible refine Up.alloc ?_ _) | (with_reducible refine Up.drew ?_) | ((with_reducible refine Up.set ?_ ?_ _); rotate_left; focus (first | omega | (simp; done) | (simp; omega))) | (with_reducible refine Up.drewN ?_ _) | (with_reducible refine Up.call ?_ (by with_reducible assumption))))) HF.out rfl
  | some p =>
  cases r2 : spanF c with
  | none =>
    have H1 := hid r1; have HF := hid (ahead_not (f := F) (b := b) (.inr r2))
    have H2 := hid r2
    clear r1 r2
    go_wp2_with (first
                        | ((go_at_call 62; (with_reducible refine (lnumbers_any b _ HLb.out).mono ?_); rintro e w2 ⟨x2, v2, hx2, rfl, hv2, hb2⟩ <;> (rw [H1.out] at hx2; subst hx2; obtain ⟨A1, m1, rfl, hr1, hm1⟩ := hv2; have HR1 := hid hr1; clear hr1; have kk2 := HK.out w2 (by (repeat (first | (with_reducible exact Up.refl _) | (with_reducible assumption) | (with_reducible refine Up.alloc ?_ _) | (with_reducible refine Up.drew ?_) | ((with_reducible refine Up.set ?_ ?_ _); rotate_left; focus (first | omega | (simp; done) | (simp; omega))) | (with_reducible refine Up.drewN ?_ _) | (with_reducible refine Up.call ?_ (by with_reducible assumption))))); obtain ⟨p0, p1, p2⟩ := kk2)) <;> (have hle := Up.le hb2; (try simp only [World.size_alloc, World.size_setCell, World.size_drew, World.heap_drewN] at hle); (try (have _ : g < w2.heap.size := (by omega))); clear hle))
                        | ((go_at_call 54; (with_reducible refine (rsp_any c _ HLc.out).mono ?_); rintro e w3 ⟨x3, hx3, rfl, hb3⟩ <;> (rw [H2.out] at hx3; subst hx3; dsimp only [rspB]; have kk3 := HK.out w3 (by (repeat (first | (with_reducible exact Up.refl _) | (with_reducible assumption) | (with_reducible refine Up.alloc ?_ _) | (with_reducible refine Up.drew ?_) | ((with_reducible refine Up.set ?_ ?_ _); rotate_left; focus (first | omega | (simp; done) | (simp; omega))) | (with_reducible refine Up.drewN ?_ _) | (with_reducible refine Up.call ?_ (by with_reducible assumption))))); obtain ⟨q0, q1, q2⟩ := kk3)) <;> (have hle := Up.le hb3; (try simp only [World.size_alloc, World.size_setCell, World.size_drew, World.heap_drewN] at hle); (try (have _ : g < w3.heap.size := (by omega))); clear hle)))
    go_ret
    exact RetX.mk ([98, 97, 100] : List UInt8) (by (repeat (first | (with_reducible exact Up.refl _) | (with_reducible assumption) | (with_reducible refine Up.alloc ?_ _) | (with_reducible refine Up.drew ?_) | ((with_reducible refine Up.set ?_ ?_ _); rotate_left; focus (first | omega | (simp; done) | (simp; omega))) | (with_reducible refine Up.drewN ?_ _) | (with_reducible refine Up.call ?_ (by with_reducible assumption))))) HF.out rfl
  | some x =>
  have H1 := hid r1; have H2 := hid r2
  have HPL := hid (show p.length ≤ 9223372036854775807 by have := rnums_len r1; have := HLb.out; omega)
  have hrt := span_rt r2
  have HX := hid hrt
  cases hp : pcheckF p with
  | some e =>
    have HP := hid hp
    have HF := hid (by have := newton_bad r1 r2 hp; rw [← HFF.out] at this; exact this : ansF (overLF F b c) = nameF e)
    obtain ⟨h1, h2⟩ := pc_num hp
    have HN := hid h2
    have hz : ((e : Int) == 0) = false := beq_eq_false_iff_ne.2 (by omega)
    have hz2 : ((e : Int) != 0) = true := by simp; omega
    obtain ⟨e1, e2⟩ := x
    clear r1 r2 hp hrt h1 h2
    go_wp2_with (first
                        | ((go_at_call 62; (with_reducible refine (lnumbers_any b _ HLb.out).mono ?_); rintro e w2 ⟨x2, v2, hx2, rfl, hv2, hb2⟩ <;> (rw [H1.out] at hx2; subst hx2; obtain ⟨A1, m1, rfl, hr1, hm1⟩ := hv2; have HR1 := hid hr1; clear hr1; have kk2 := HK.out w2 (by (repeat (first | (with_reducible exact Up.refl _) | (with_reducible assumption) | (with_reducible refine Up.alloc ?_ _) | (with_reducible refine Up.drew ?_) | ((with_reducible refine Up.set ?_ ?_ _); rotate_left; focus (first | omega | (simp; done) | (simp; omega))) | (with_reducible refine Up.drewN ?_ _) | (with_reducible refine Up.call ?_ (by with_reducible assumption))))); obtain ⟨p0, p1, p2⟩ := kk2)) <;> (have hle := Up.le hb2; (try simp only [World.size_alloc, World.size_setCell, World.size_drew, World.heap_drewN] at hle); (try (have _ : g < w2.heap.size := (by omega))); clear hle))
                        | ((go_at_call 54; (with_reducible refine (rsp_any c _ HLc.out).mono ?_); rintro e w3 ⟨x3, hx3, rfl, hb3⟩ <;> (rw [H2.out] at hx3; subst hx3; dsimp only [rspB]; have kk3 := HK.out w3 (by (repeat (first | (with_reducible exact Up.refl _) | (with_reducible assumption) | (with_reducible refine Up.alloc ?_ _) | (with_reducible refine Up.drew ?_) | ((with_reducible refine Up.set ?_ ?_ _); rotate_left; focus (first | omega | (simp; done) | (simp; omega))) | (with_reducible refine Up.drewN ?_ _) | (with_reducible refine Up.call ?_ (by with_reducible assumption))))); obtain ⟨q0, q1, q2⟩ := kk3)) <;> (have hle := Up.le hb3; (try simp only [World.size_alloc, World.size_setCell, World.size_drew, World.heap_drewN] at hle); (try (have _ : g < w3.heap.size := (by omega))); clear hle))
                        | ((go_at_call 63; (with_reducible refine (rpoly_any A1 p m1 _ HPL.out (HR1.out.up (by (repeat (first | (with_reducible exact Up.refl _) | (with_reducible assumption) | (with_reducible refine Up.alloc ?_ _) | (with_reducible refine Up.drew ?_) | ((with_reducible refine Up.set ?_ ?_ _); rotate_left; focus (first | omega | (simp; done) | (simp; omega))) | (with_reducible refine Up.drewN ?_ _) | (with_reducible refine Up.call ?_ (by with_reducible assumption))))))).mono ?_); rintro e w4 ⟨x4, hx4, rfl, hb4⟩ <;> (rw [HP.out] at hx4; subst hx4)) <;> (have hle := Up.le hb4; (try simp only [World.size_alloc, World.size_setCell, World.size_drew, World.heap_drewN] at hle); (try (have _ : w3.heap.size < w4.heap.size := (by omega); (first | ((apply fk hb4 (w3.heap.size); (focus (go_simp; rfl)); (focus (intro o; go_simp)); intro z; (try clear f3_0); have f3_0 := z; clear z)) | skip); (try (apply fko hb4 (w3.heap.size) 0; (focus (go_simp; rfl)); (focus (go_simp; done)); intro z; (try clear g3_0_0); have g3_0_0 := z; clear z)); (try (apply fko hb4 (w3.heap.size) 1; (focus (go_simp; rfl)); (focus (go_simp; done)); intro z; (try clear g3_0_1); have g3_0_1 := z; clear z)); (try (apply ck hb4 (w3.heap.size) 0; (focus (go_simp; rfl)); intro z; (try clear c3_0_0); have c3_0_0 := z; clear z)); (try (apply ck hb4 (w3.heap.size) 1; (focus (go_simp; rfl)); intro z; (try clear c3_0_1); have c3_0_1 := z; clear z)))); (try (have _ : g < w4.heap.size := (by omega))); clear hle))
                        | ((go_at_call 60; (with_reducible refine (rname_any e HN.out _).mono ?_); rintro e w5 ⟨x5, rfl, rfl, hb5⟩) <;> (have hle := Up.le hb5; (try simp only [World.size_alloc, World.size_setCell, World.size_drew, World.heap_drewN] at hle); (try (have _ : w3.heap.size < w5.heap.size := (by omega); (first | ((apply fk hb5 (w3.heap.size); (focus (go_simp; rfl)); (focus (intro o; go_simp)); intro z; (try clear f3_0); have f3_0 := z; clear z)) | skip); (try (apply fko hb5 (w3.heap.size) 0; (focus (go_simp; rfl)); (focus (go_simp; done)); intro z; (try clear g3_0_0); have g3_0_0 := z; clear z)); (try (apply fko hb5 (w3.heap.size) 1; (focus (go_simp; rfl)); (focus (go_simp; done)); intro z; (try clear g3_0_1); have g3_0_1 := z; clear z)); (try (apply ck hb5 (w3.heap.size) 0; (focus (go_simp; rfl)); intro z; (try clear c3_0_0); have c3_0_0 := z; clear z)); (try (apply ck hb5 (w3.heap.size) 1; (focus (go_simp; rfl)); intro z; (try clear c3_0_1); have c3_0_1 := z; clear z)))); (try (have _ : g < w5.heap.size := (by omega))); clear hle)))
    go_ret
    exact RetX.mk (nameF e) (by (repeat (first | (with_reducible exact Up.refl _) | (with_reducible assumption) | (with_reducible refine Up.alloc ?_ _) | (with_reducible refine Up.drew ?_) | ((with_reducible refine Up.set ?_ ?_ _); rotate_left; focus (first | omega | (simp; done) | (simp; omega))) | (with_reducible refine Up.drewN ?_ _) | (with_reducible refine Up.call ?_ (by with_reducible assumption))))) HF.out rfl
  | none =>
    have HP := hid hp
    have HF := hid (by have := newton_good r1 r2 hp; rw [← HFF.out] at this; exact this : ansF (overLF F b c) = ansF (told2 (iterN p 20 x)))
    obtain ⟨h0', h5, hpM⟩ := pc_parts hp
    have HNW := hid (fun A m W hW (y : Sp) hy => show Calls Tryz.prog 65 #[.slice A p.length m, .agg #[.int .i64 y.lo, .int .i64 y.hi]] W (RetX rfR (nearerF p y) W) from rnewton_any A p m y.lo y.hi W h0' h5 hW hpM hy)
    obtain ⟨e1, e2⟩ := x
    clear r1 r2 hp hrt h0' h5 hpM
    go_wp2_with (first
                        | ((go_at_call 62; (with_reducible refine (lnumbers_any b _ HLb.out).mono ?_); rintro e w2 ⟨x2, v2, hx2, rfl, hv2, hb2⟩ <;> (rw [H1.out] at hx2; subst hx2; obtain ⟨A1, m1, rfl, hr1, hm1⟩ := hv2; have HR1 := hid hr1; clear hr1; have kk2 := HK.out w2 (by (repeat (first | (with_reducible exact Up.refl _) | (with_reducible assumption) | (with_reducible refine Up.alloc ?_ _) | (with_reducible refine Up.drew ?_) | ((with_reducible refine Up.set ?_ ?_ _); rotate_left; focus (first | omega | (simp; done) | (simp; omega))) | (with_reducible refine Up.drewN ?_ _) | (with_reducible refine Up.call ?_ (by with_reducible assumption))))); obtain ⟨p0, p1, p2⟩ := kk2)) <;> (have hle := Up.le hb2; (try simp only [World.size_alloc, World.size_setCell, World.size_drew, World.heap_drewN] at hle); (try (have _ : g < w2.heap.size := (by omega))); clear hle))
                        | ((go_at_call 54; (with_reducible refine (rsp_any c _ HLc.out).mono ?_); rintro e w3 ⟨x3, hx3, rfl, hb3⟩ <;> (rw [H2.out] at hx3; subst hx3; dsimp only [rspB]; have kk3 := HK.out w3 (by (repeat (first | (with_reducible exact Up.refl _) | (with_reducible assumption) | (with_reducible refine Up.alloc ?_ _) | (with_reducible refine Up.drew ?_) | ((with_reducible refine Up.set ?_ ?_ _); rotate_left; focus (first | omega | (simp; done) | (simp; omega))) | (with_reducible refine Up.drewN ?_ _) | (with_reducible refine Up.call ?_ (by with_reducible assumption))))); obtain ⟨q0, q1, q2⟩ := kk3)) <;> (have hle := Up.le hb3; (try simp only [World.size_alloc, World.size_setCell, World.size_drew, World.heap_drewN] at hle); (try (have _ : g < w3.heap.size := (by omega))); clear hle))
                        | ((go_at_call 63; (with_reducible refine (rpoly_any A1 p m1 _ HPL.out (HR1.out.up (by (repeat (first | (with_reducible exact Up.refl _) | (with_reducible assumption) | (with_reducible refine Up.alloc ?_ _) | (with_reducible refine Up.drew ?_) | ((with_reducible refine Up.set ?_ ?_ _); rotate_left; focus (first | omega | (simp; done) | (simp; omega))) | (with_reducible refine Up.drewN ?_ _) | (with_reducible refine Up.call ?_ (by with_reducible assumption))))))).mono ?_); rintro e w4 ⟨x4, hx4, rfl, hb4⟩ <;> (rw [HP.out] at hx4; subst hx4)) <;> (have hle := Up.le hb4; (try simp only [World.size_alloc, World.size_setCell, World.size_drew, World.heap_drewN] at hle); (try (have _ : w3.heap.size < w4.heap.size := (by omega); (first | ((apply fk hb4 (w3.heap.size); (focus (go_simp; rfl)); (focus (intro o; go_simp)); intro z; (try clear f3_0); have f3_0 := z; clear z)) | skip); (try (apply fko hb4 (w3.heap.size) 0; (focus (go_simp; rfl)); (focus (go_simp; done)); intro z; (try clear g3_0_0); have g3_0_0 := z; clear z)); (try (apply fko hb4 (w3.heap.size) 1; (focus (go_simp; rfl)); (focus (go_simp; done)); intro z; (try clear g3_0_1); have g3_0_1 := z; clear z)); (try (apply ck hb4 (w3.heap.size) 0; (focus (go_simp; rfl)); intro z; (try clear c3_0_0); have c3_0_0 := z; clear z)); (try (apply ck hb4 (w3.heap.size) 1; (focus (go_simp; rfl)); intro z; (try clear c3_0_1); have c3_0_1 := z; clear z)))); (try (have _ : g < w4.heap.size := (by omega))); clear hle)))
    go_loopw [22, 23, 24] (fun i _ _ wr => ∃ (k : Nat) (y : Sp), k ≤ 20 ∧ i = .int .i64 (k : Int) ∧ Hid (iterN p 20 ⟨e1, e2⟩ = iterN p (20 - k) y) ∧ Hid (Rt y) ∧ Cf wr w3.heap.size 0 (.int .i64 y.lo) ∧ Cf wr w3.heap.size 1 (.int .i64 y.hi) ∧ Up w3 wr) (fun i _ _ _ => 20 - (intOf i).toNat)
    case atStart => exact ⟨0, ⟨e1, e2⟩, by omega, rfl, rfl, HX.out, ⟨by go_simp, by go_simp⟩, ⟨by go_simp, by go_simp⟩, by (repeat (first | (with_reducible exact Up.refl _) | (with_reducible assumption) | (with_reducible refine Up.alloc ?_ _) | (with_reducible refine Up.drew ?_) | ((with_reducible refine Up.set ?_ ?_ _); rotate_left; focus (first | omega | (simp; done) | (simp; omega))) | (with_reducible refine Up.drewN ?_ _) | (with_reducible refine Up.call ?_ (by with_reducible assumption))))⟩
    case round =>
      obtain ⟨k, y, hk, rfl, HI, HY, ⟨c0, f0⟩, ⟨c1, f1⟩, hU⟩ := hrel
      have l0 := World.block_lt_of_cell? _ _ c0
      dsimp only at l0
      by_cases hlt : k < 20
      · have hkt : (k : Int) < 20 := by omega
        have hkd : decide ((k : Int) < 20) = true := decide_eq_true hkt
        obtain ⟨m, hm⟩ : ∃ m, 20 - k = m + 1 := ⟨20 - k - 1, by omega⟩
        have Hyn := hid (fun A m W hW => HNW.out A m W hW y HY.out)
        have HM := hid hm
        clear hm
        cases hs : nearerF p y with
        | error n =>
          have HF2 := hid (show ansF (overLF F b c) = nameF n by rw [HF.out, HI.out, HM.out]; unfold iterN; rw [hs]; rfl)
          have HS5 := hid hs
          obtain ⟨h1, h2⟩ := near_num hs
          have HN := hid h2
          have hz : ((n : Int) == 0) = false := beq_eq_false_iff_ne.2 (by omega)
          have hz2 : ((n : Int) != 0) = true := by simp; omega
          clear hs h1 h2
          go_wp2_with (first
                        | ((go_at_call 65; (with_reducible refine (Hyn.out A1 m1 _ (HR1.out.up (by (repeat (first | (with_reducible exact Up.refl _) | (with_reducible assumption) | (with_reducible refine Up.alloc ?_ _) | (with_reducible refine Up.drew ?_) | ((with_reducible refine Up.set ?_ ?_ _); rotate_left; focus (first | omega | (simp; done) | (simp; omega))) | (with_reducible refine Up.drewN ?_ _) | (with_reducible refine Up.call ?_ (by with_reducible assumption))))))).mono ?_); rintro e w5 ⟨x5, hx5, rfl, hb5⟩ <;> (rw [HS5.out] at hx5; subst hx5)) <;> (have hle := Up.le hb5; (try simp only [World.size_alloc, World.size_setCell, World.size_drew, World.heap_drewN] at hle); (try (have _ : w3.heap.size < w5.heap.size := (by omega); (first | ((apply fk hb5 (w3.heap.size); (focus (go_simp; rfl)); (focus (intro o; go_simp)); intro z; (try clear f3_0); have f3_0 := z; clear z)) | skip); (try (apply fko hb5 (w3.heap.size) 0; (focus (go_simp; rfl)); (focus (go_simp; done)); intro z; (try clear g3_0_0); have g3_0_0 := z; clear z)); (try (apply fko hb5 (w3.heap.size) 1; (focus (go_simp; rfl)); (focus (go_simp; done)); intro z; (try clear g3_0_1); have g3_0_1 := z; clear z)); (try (apply ck hb5 (w3.heap.size) 0; (focus (go_simp; rfl)); intro z; (try clear c3_0_0); have c3_0_0 := z; clear z)); (try (apply ck hb5 (w3.heap.size) 1; (focus (go_simp; rfl)); intro z; (try clear c3_0_1); have c3_0_1 := z; clear z)))); (try (have _ : g < w5.heap.size := (by omega))); clear hle))
                        | ((go_at_call 60; (with_reducible refine (rname_any n HN.out _).mono ?_); rintro e w6 ⟨x6, rfl, rfl, hb6⟩) <;> (have hle := Up.le hb6; (try simp only [World.size_alloc, World.size_setCell, World.size_drew, World.heap_drewN] at hle); (try (have _ : w3.heap.size < w6.heap.size := (by omega); (first | ((apply fk hb6 (w3.heap.size); (focus (go_simp; rfl)); (focus (intro o; go_simp)); intro z; (try clear f3_0); have f3_0 := z; clear z)) | skip); (try (apply fko hb6 (w3.heap.size) 0; (focus (go_simp; rfl)); (focus (go_simp; done)); intro z; (try clear g3_0_0); have g3_0_0 := z; clear z)); (try (apply fko hb6 (w3.heap.size) 1; (focus (go_simp; rfl)); (focus (go_simp; done)); intro z; (try clear g3_0_1); have g3_0_1 := z; clear z)); (try (apply ck hb6 (w3.heap.size) 0; (focus (go_simp; rfl)); intro z; (try clear c3_0_0); have c3_0_0 := z; clear z)); (try (apply ck hb6 (w3.heap.size) 1; (focus (go_simp; rfl)); intro z; (try clear c3_0_1); have c3_0_1 := z; clear z)))); (try (have _ : g < w6.heap.size := (by omega))); clear hle)))
          go_ret
          exact RetX.mk (nameF n) (by (repeat (first | (with_reducible exact Up.refl _) | (with_reducible assumption) | (with_reducible refine Up.alloc ?_ _) | (with_reducible refine Up.drew ?_) | ((with_reducible refine Up.set ?_ ?_ _); rotate_left; focus (first | omega | (simp; done) | (simp; omega))) | (with_reducible refine Up.drewN ?_ _) | (with_reducible refine Up.call ?_ (by with_reducible assumption))))) HF2.out rfl
        | ok t =>
          have HI2 := hid (show iterN p 20 ⟨e1, e2⟩ = iterN p (20 - (k + 1)) t by rw [HI.out, HM.out, show 20 - (k + 1) = m by have := HM.out; omega]; conv => lhs; unfold iterN; rw [hs])
          have HY2 := hid (nearer_rt HY.out hs)
          have HS5 := hid hs
          clear hs
          go_wp2_with (first
                        | ((go_at_call 65; (with_reducible refine (Hyn.out A1 m1 _ (HR1.out.up (by (repeat (first | (with_reducible exact Up.refl _) | (with_reducible assumption) | (with_reducible refine Up.alloc ?_ _) | (with_reducible refine Up.drew ?_) | ((with_reducible refine Up.set ?_ ?_ _); rotate_left; focus (first | omega | (simp; done) | (simp; omega))) | (with_reducible refine Up.drewN ?_ _) | (with_reducible refine Up.call ?_ (by with_reducible assumption))))))).mono ?_); rintro e w5 ⟨x5, hx5, rfl, hb5⟩ <;> (rw [HS5.out] at hx5; subst hx5)) <;> (have hle := Up.le hb5; (try simp only [World.size_alloc, World.size_setCell, World.size_drew, World.heap_drewN] at hle); (try (have _ : w3.heap.size < w5.heap.size := (by omega); (first | ((apply fk hb5 (w3.heap.size); (focus (go_simp; rfl)); (focus (intro o; go_simp)); intro z; (try clear f3_0); have f3_0 := z; clear z)) | skip); (try (apply fko hb5 (w3.heap.size) 0; (focus (go_simp; rfl)); (focus (go_simp; done)); intro z; (try clear g3_0_0); have g3_0_0 := z; clear z)); (try (apply fko hb5 (w3.heap.size) 1; (focus (go_simp; rfl)); (focus (go_simp; done)); intro z; (try clear g3_0_1); have g3_0_1 := z; clear z)); (try (apply ck hb5 (w3.heap.size) 0; (focus (go_simp; rfl)); intro z; (try clear c3_0_0); have c3_0_0 := z; clear z)); (try (apply ck hb5 (w3.heap.size) 1; (focus (go_simp; rfl)); intro z; (try clear c3_0_1); have c3_0_1 := z; clear z)))); (try (have _ : g < w5.heap.size := (by omega))); clear hle)))
          go_roundw
          case rel => exact ⟨k + 1, t, by omega, by go_num, HI2.out, HY2.out, ⟨by go_simp, by go_simp⟩, ⟨by go_simp, by go_simp⟩, by (repeat (first | (with_reducible exact Up.refl _) | (with_reducible assumption) | (with_reducible refine Up.alloc ?_ _) | (with_reducible refine Up.drew ?_) | ((with_reducible refine Up.set ?_ ?_ _); rotate_left; focus (first | omega | (simp; done) | (simp; omega))) | (with_reducible refine Up.drewN ?_ _) | (with_reducible refine Up.call ?_ (by with_reducible assumption))))⟩
          case measure => simp [intOf]; omega
      · obtain rfl : k = 20 := by omega
        have HF2 := hid (show ansF (overLF F b c) = stextF y by rw [HF.out, HI.out]; rfl)
        have HW := hid (rt_wide HY.out)
        go_wp2_with (first
                        | ((go_at_call 22; (with_reducible refine (rstext_any y _ HW.out).mono ?_); rintro e w6 ⟨x6, rfl, rfl, hb6⟩) <;> (have hle := Up.le hb6; (try simp only [World.size_alloc, World.size_setCell, World.size_drew, World.heap_drewN] at hle); (try (have _ : w3.heap.size < w6.heap.size := (by omega); (first | ((apply fk hb6 (w3.heap.size); (focus (go_simp; rfl)); (focus (intro o; go_simp)); intro z; (try clear f3_0); have f3_0 := z; clear z)) | skip); (try (apply fko hb6 (w3.heap.size) 0; (focus (go_simp; rfl)); (focus (go_simp; done)); intro z; (try clear g3_0_0); have g3_0_0 := z; clear z)); (try (apply fko hb6 (w3.heap.size) 1; (focus (go_simp; rfl)); (focus (go_simp; done)); intro z; (try clear g3_0_1); have g3_0_1 := z; clear z)); (try (apply ck hb6 (w3.heap.size) 0; (focus (go_simp; rfl)); intro z; (try clear c3_0_0); have c3_0_0 := z; clear z)); (try (apply ck hb6 (w3.heap.size) 1; (focus (go_simp; rfl)); intro z; (try clear c3_0_1); have c3_0_1 := z; clear z)))); (try (have _ : g < w6.heap.size := (by omega))); clear hle)))
        go_ret
        exact RetX.mk (stextF y) (by (repeat (first | (with_reducible exact Up.refl _) | (with_reducible assumption) | (with_reducible refine Up.alloc ?_ _) | (with_reducible refine Up.drew ?_) | ((with_reducible refine Up.set ?_ ?_ _); rotate_left; focus (first | omega | (simp; done) | (simp; omega))) | (with_reducible refine Up.drewN ?_ _) | (with_reducible refine Up.call ?_ (by with_reducible assumption))))) HF2.out rfl
end Go.Proofs.YtmjcnpolnknkkaaGreatDoor
