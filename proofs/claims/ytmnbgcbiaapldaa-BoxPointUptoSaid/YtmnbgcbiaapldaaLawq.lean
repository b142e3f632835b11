/- BoxPoint, where what it reads is of bulk at most 1048576 (BoxPointUptoSaid): a box of one point is halved into itself. No other condition. -/
import Derived.Test.YtmnbgcbiaapldaaClone
import Derived.Test.YtmnbgcbiaapldaaSame
import Derived.Test.YtmnbgcbiaapldaaHash
import Derived.Test.YtmnbgcbiaapldaaRowb
import Derived.Test.YtmnbgcbiaapldaaFacts
import Derived.JoinedCond

set_option linter.unusedVariables false
set_option linter.unusedSimpArgs false
namespace Go.Proofs.Ytmnbgcbiaapldaa
open Go.ChangeShapes Go.WideShapes Go.ChangeAt Go.RowKit Go.Joins Go.Deep

def pts (x : List Int) : List Sp := x.map fun n => ⟨n, n⟩
theorem pts_len (x : List Int) : (pts x).length = x.length := by simp [pts]
theorem pts_at {x : List Int} {i : Nat} (h : i < x.length) : sAt (pts x) i = ⟨nAt x i, nAt x i⟩ := by
  unfold sAt nAt pts
  rw [List.getElem?_map, List.getElem?_eq_getElem h]
  rfl
theorem pts_inside (x : List Int) : Inside (pts x) x := by
  rw [inside_iff]
  refine ⟨(pts_len x).symm, fun i hi => ?_⟩
  rw [pts_at (by rw [pts_len] at hi; exact hi)]
  exact ⟨Int.le_refl _, Int.le_refl _⟩
theorem pts_has {x : List Int} (h : bcheckF (pts x) = none) : hasF (pts x) x = .ok true := hasF_in (bcheck_bx h) (pts_inside x)
theorem pts_has_bad {x : List Int} {e : Nat} (h : bcheckF (pts x) = some e) : hasF (pts x) x = .error e := by unfold hasF; rw [h]
theorem half_point (n : Int) : halfF ⟨n, n⟩ = n := by unfold halfF dn; dsimp only; omega
theorem pts_halves {x : List Int} (h : 0 < x.length) : halvesF (pts x) = (pts x, pts x) := by
  have hp : 0 < (pts x).length := by rw [pts_len]; exact h
  obtain ⟨l1, l2⟩ := halves_len (pts x)
  have key : ∀ i, i < (pts x).length → sAt (halvesF (pts x)).1 i = sAt (pts x) i ∧ sAt (halvesF (pts x)).2 i = sAt (pts x) i := by
    intro i hi
    rw [pts_len] at hi
    rw [(halves_at hp i).1, (halves_at hp i).2, pts_at hi, half_point]
    exact ⟨by split <;> rfl, by split <;> rfl⟩
  have e1 : (halvesF (pts x)).1 = pts x := ext_at l1 (fun i hi => (key i (by omega)).1)
  have e2 : (halvesF (pts x)).2 = pts x := ext_at l2 (fun i hi => (key i (by omega)).2)
  exact Prod.ext e1 e2
theorem pts_snoc {x : List Int} {k : Nat} (h : k < x.length) : pts (x.take (k + 1)) = pts (x.take k) ++ [⟨x[k]?.getD 0, x[k]?.getD 0⟩] := by
  unfold pts
  rw [List.take_succ_eq_append_getElem h, List.map_append, List.getElem?_eq_getElem h]
  rfl
set_option maxRecDepth 100000 in
set_option maxHeartbeats 4000000 in
theorem boxPoint_walk (A : Option Addr) (x : List Int) (c : Nat) (w : World) (hL : LI w A x c) (hm : x.length ≤ 1048576) :
    Calls Try.prog 7 #[.slice A x.length c] w (LawEnd w) := by
  obtain ⟨i0, hi0, hz0, hz1, hz2⟩ := info_parts Try.infoSpan
  have Hr := hid hL.rd
  have Hm := hid hm
  clear hL hm
  go_enter Try.func7, Try.ntmps7
  go_wp2
  go_loopw [3, 4] (fun v i wr => ∃ (k : Nat), k ≤ x.length ∧ i = .int .i64 k ∧ OwnS wr w.heap.size v (pts (x.take k)) ∧ Up w wr) (fun _ i _ => x.length - (intOf i).toNat)
  case atStart => exact ⟨0, by omega, rfl, OwnS.nil _ _, Up.refl _⟩
  case round =>
    obtain ⟨k, hk, rfl, hown, hU⟩ := hrel
    have gr := (bcell hU).1
    by_cases hlt : k < x.length
    · obtain ⟨b1, o1, rfl, l1, c1⟩ := (Hr.out).at (by omega)
      have k1 := (gr _ _ l1).trans (c1 k hlt)
      have Hst := hid (pts_snoc hlt)
      have HL := hid (show (pts (x.take k)).length ≤ 1048576 by rw [pts_len, List.length_take]; have := Hm.out; omega)
      have hm2 : (x.length : Int) ≤ 1048576 := by have := Hm.out; omega
      generalize x[k]?.getD 0 = n at *
      generalize pts (x.take k) = L at *
      clear c1 gr
      have hle := hU.le
      have _ : b1 < wr.heap.size := by omega
      have hdk : decide ((k : Int) < (x.length : Int)) = true := by simp; omega
      have hkx : ((k : Int) < (x.length : Int)) := by omega
      have hk0 : (0 : Int) ≤ (k : Int) := by omega
      have Hown := hid hown
      have Hlt := hid hlt
      clear hown hlt
      go_wp2_with fail
      go_region_law (refine step_append_lies _ (by rfl) _ _ _ (by rfl) w.heap.size 27 i0 _ 2 16 Try.underlying39 hi0 hz0 hz1 hz2 rfl (by omega) _ _ (spans L) (by rfl) (Hown.out.up ((Up.refl wr).alloc _).drew) ⟨wr.heap.size, 0, none⟩ 1 1 [.int .i64 n, .int .i64 n] (by rfl) (by rfl) (cell_two_new _ _ _ _) (by simp [Value.oneCell']) (by omega) (by have := HL.out; unfold maxLen; omega) (by have := HL.out; omega) (by have := hU.le; simp; omega) _ rfl ?_; intro gg cap w2 hown2 hgrow hat hlt2)
      all_goals go_wp2
      all_goals
        go_roundw
        case rel =>
          refine ⟨k + 1, by have := Hlt.out; omega, by go_num, ?_, ?_⟩
          · rw [Hst.out]; exact OwnS.snoc hown2
          · exact OwnS.grown (hU.alloc _).drew (Hown.out.up ((Up.refl wr).alloc _).drew) hgrow
        case measure => have := Hlt.out; simp [intOf]; omega
    · obtain rfl : k = x.length := by omega
      rw [List.take_length] at hown
      obtain ⟨Ab, cb, hv, hrd1, hc1⟩ := hown.rd
      subst hv
      have Hb := hid hrd1
      have hlen := pts_len x
      have HL := hid (show (pts x).length ≤ 9223372036854775807 by rw [pts_len]; have := Hm.out; omega)
      have HX := hid (show 0 < (pts x).length → 0 < x.length by rw [pts_len]; exact id)
      clear hown hrd1 gr hlen
      cases hc : bcheckF (pts x) with
      | some e =>
        have Hc := hid hc
        have Hh := hid (pts_has_bad hc)
        clear hc
        go_wp2_with (first
                        | ((go_at_call 42; (with_reducible refine (bhas_any _ _ (pts x) x _ _ _ (Hb.out.up (by (repeat (first | (with_reducible exact Up.refl _) | (with_reducible assumption) | (with_reducible refine Up.alloc ?_ _) | (with_reducible refine Up.drew ?_) | ((with_reducible refine Up.set ?_ ?_ _); rotate_left; focus (first | omega | (simp; done) | (simp; omega))) | (with_reducible refine Up.drewN ?_ _) | (with_reducible refine Up.call ?_ (by with_reducible assumption)))))) (Hr.out.up (by (repeat (first | (with_reducible exact Up.refl _) | (with_reducible assumption) | (with_reducible refine Up.alloc ?_ _) | (with_reducible refine Up.drew ?_) | ((with_reducible refine Up.set ?_ ?_ _); rotate_left; focus (first | omega | (simp; done) | (simp; omega))) | (with_reducible refine Up.drewN ?_ _) | (with_reducible refine Up.call ?_ (by with_reducible assumption))))))).mono ?_); rintro e w1 ⟨x1, hx1, rfl, hb1⟩ <;> (rw [Hh.out] at hx1; subst hx1)) <;> (have hle := Up.le hb1; (try simp only [World.size_alloc, World.size_setCell, World.size_drew, World.heap_drewN] at hle); clear hle))
                        | ((go_at_call 43; (with_reducible refine (bcheck_any _ (pts x) _ _ (Hb.out.up (by (repeat (first | (with_reducible exact Up.refl _) | (with_reducible assumption) | (with_reducible refine Up.alloc ?_ _) | (with_reducible refine Up.drew ?_) | ((with_reducible refine Up.set ?_ ?_ _); rotate_left; focus (first | omega | (simp; done) | (simp; omega))) | (with_reducible refine Up.drewN ?_ _) | (with_reducible refine Up.call ?_ (by with_reducible assumption))))))).mono ?_); rintro e w2 ⟨x2, hx2, rfl, hb2⟩ <;> (rw [Hc.out] at hx2; subst hx2)) <;> (have hle := Up.le hb2; (try simp only [World.size_alloc, World.size_setCell, World.size_drew, World.heap_drewN] at hle); clear hle)))
        all_goals
          go_ret
          refine LawEnd.mk rfl ?_
          (repeat (first | (with_reducible exact Up.refl _) | (with_reducible assumption) | (with_reducible refine Up.alloc ?_ _) | (with_reducible refine Up.drew ?_) | ((with_reducible refine Up.set ?_ ?_ _); rotate_left; focus (first | omega | (simp; done) | (simp; omega))) | (with_reducible refine Up.drewN ?_ _) | (with_reducible refine Up.call ?_ (by with_reducible assumption))))
      | none =>
        have Hh := hid (pts_has hc)
        have Hv := hid (show halveF (pts x) = .ok (pts x, pts x) by unfold halveF; rw [hc]; show Except.ok _ = _; rw [pts_halves (HX.out (bcheck_bx hc).pos)])
        clear hc
        go_wp2_with (first
                        | ((go_at_call 42; (with_reducible refine (bhas_any _ _ (pts x) x _ _ _ (Hb.out.up (by (repeat (first | (with_reducible exact Up.refl _) | (with_reducible assumption) | (with_reducible refine Up.alloc ?_ _) | (with_reducible refine Up.drew ?_) | ((with_reducible refine Up.set ?_ ?_ _); rotate_left; focus (first | omega | (simp; done) | (simp; omega))) | (with_reducible refine Up.drewN ?_ _) | (with_reducible refine Up.call ?_ (by with_reducible assumption)))))) (Hr.out.up (by (repeat (first | (with_reducible exact Up.refl _) | (with_reducible assumption) | (with_reducible refine Up.alloc ?_ _) | (with_reducible refine Up.drew ?_) | ((with_reducible refine Up.set ?_ ?_ _); rotate_left; focus (first | omega | (simp; done) | (simp; omega))) | (with_reducible refine Up.drewN ?_ _) | (with_reducible refine Up.call ?_ (by with_reducible assumption))))))).mono ?_); rintro e w1 ⟨x1, hx1, rfl, hb1⟩ <;> (rw [Hh.out] at hx1; subst hx1)) <;> (have hle := Up.le hb1; (try simp only [World.size_alloc, World.size_setCell, World.size_drew, World.heap_drewN] at hle); clear hle))
                        | ((go_at_call 44; (with_reducible refine (halve_any _ (pts x) _ _ (Hb.out.up (by (repeat (first | (with_reducible exact Up.refl _) | (with_reducible assumption) | (with_reducible refine Up.alloc ?_ _) | (with_reducible refine Up.drew ?_) | ((with_reducible refine Up.set ?_ ?_ _); rotate_left; focus (first | omega | (simp; done) | (simp; omega))) | (with_reducible refine Up.drewN ?_ _) | (with_reducible refine Up.call ?_ (by with_reducible assumption))))))).mono ?_); rintro e w2 ⟨x2, v2, hx2, rfl, hv2, hb2⟩ <;> (rw [Hv.out] at hx2; subst hx2; obtain ⟨v1', v2', rfl, hw1, hw2⟩ := hv2; obtain ⟨Ay, cy, rfl, ry, -⟩ := hw1.rd; obtain ⟨Az, cz, rfl, rz, -⟩ := hw2.rd; have Ry := hid ry; have Rz := hid rz; clear hw1 hw2 ry rz)) <;> (have hle := Up.le hb2; (try simp only [World.size_alloc, World.size_setCell, World.size_drew, World.heap_drewN] at hle); clear hle))
                        | ((go_at_call 45; have _n := hb3; clear _n; (with_reducible refine (sbox_any _ _ (pts x) (pts x) _ _ _ (Rz.out.up (by (repeat (first | (with_reducible exact Up.refl _) | (with_reducible assumption) | (with_reducible refine Up.alloc ?_ _) | (with_reducible refine Up.drew ?_) | ((with_reducible refine Up.set ?_ ?_ _); rotate_left; focus (first | omega | (simp; done) | (simp; omega))) | (with_reducible refine Up.drewN ?_ _) | (with_reducible refine Up.call ?_ (by with_reducible assumption)))))) (Hb.out.up (by (repeat (first | (with_reducible exact Up.refl _) | (with_reducible assumption) | (with_reducible refine Up.alloc ?_ _) | (with_reducible refine Up.drew ?_) | ((with_reducible refine Up.set ?_ ?_ _); rotate_left; focus (first | omega | (simp; done) | (simp; omega))) | (with_reducible refine Up.drewN ?_ _) | (with_reducible refine Up.call ?_ (by with_reducible assumption)))))) HL.out).mono ?_); rintro e w4 ⟨x4, hx4, rfl, hb4⟩ <;> (rw [decide_eq_true rfl] at hx4; subst hx4)) <;> (have hle := Up.le hb4; (try simp only [World.size_alloc, World.size_setCell, World.size_drew, World.heap_drewN] at hle); clear hle))
                        | ((go_at_call 45; have _n := hb2; clear _n; (with_reducible refine (sbox_any _ _ (pts x) (pts x) _ _ _ (Ry.out.up (by (repeat (first | (with_reducible exact Up.refl _) | (with_reducible assumption) | (with_reducible refine Up.alloc ?_ _) | (with_reducible refine Up.drew ?_) | ((with_reducible refine Up.set ?_ ?_ _); rotate_left; focus (first | omega | (simp; done) | (simp; omega))) | (with_reducible refine Up.drewN ?_ _) | (with_reducible refine Up.call ?_ (by with_reducible assumption)))))) (Hb.out.up (by (repeat (first | (with_reducible exact Up.refl _) | (with_reducible assumption) | (with_reducible refine Up.alloc ?_ _) | (with_reducible refine Up.drew ?_) | ((with_reducible refine Up.set ?_ ?_ _); rotate_left; focus (first | omega | (simp; done) | (simp; omega))) | (with_reducible refine Up.drewN ?_ _) | (with_reducible refine Up.call ?_ (by with_reducible assumption)))))) HL.out).mono ?_); rintro e w3 ⟨x3, hx3, rfl, hb3⟩ <;> (rw [decide_eq_true rfl] at hx3; subst hx3)) <;> (have hle := Up.le hb3; (try simp only [World.size_alloc, World.size_setCell, World.size_drew, World.heap_drewN] at hle); clear hle)))
        all_goals
          go_ret
          refine LawEnd.mk rfl ?_
          (repeat (first | (with_reducible exact Up.refl _) | (with_reducible assumption) | (with_reducible refine Up.alloc ?_ _) | (with_reducible refine Up.drew ?_) | ((with_reducible refine Up.set ?_ ?_ _); rotate_left; focus (first | omega | (simp; done) | (simp; omega))) | (with_reducible refine Up.drewN ?_ _) | (with_reducible refine Up.call ?_ (by with_reducible assumption))))
theorem uone_le {H : Type} (d : DataW H) : 1 ≤ Rows.uptoBulk d := by
  cases d with
  | lit l => cases l <;> simp [Rows.uptoBulk]
  | nil => simp [Rows.uptoBulk]
  | ptr d => simp [Rows.uptoBulk]
  | slice elems spare => simp [Rows.uptoBulk]
  | agg parts => simp [Rows.uptoBulk]
  | iface t d => simp [Rows.uptoBulk]
  | map entries => simp [Rows.uptoBulk]
  | held h => simp [Rows.uptoBulk]
theorem ulen_le {H : Type} (l : List (DataW H)) : l.length ≤ Rows.uptoBulkAll l := by
  induction l with
  | nil => simp [Rows.uptoBulkAll]
  | cons x r ih => have := uone_le x; simp only [Rows.uptoBulkAll, List.length_cons]; omega
theorem bulk_slice {H : Type} {enc : TypeId × Value → H} {P : Program} {W : World} {held : Bool} {t e : TypeId} {A : Option Addr} {n c : Nat} {d : DataW H} {p : List MemPlace} (ht : P.underlying t = some (.slice e))
    (h : DataW.Trod enc P W 0 (fun _ => true) held t (.slice A n c) d p) : n ≤ Rows.uptoBulk d := by
  obtain ⟨f, hf⟩ := h
  rcases DataW.trod_slice ht hf with ⟨h0, -⟩ | ⟨a, len, cap, elems, rest, m, _, h0, hx, hb, hl, hm, hlen, hel, hsp, hns⟩
  · simp [Value.cells] at h0
    omega
  · simp [Value.cells] at h0
    obtain ⟨-, rfl, -⟩ := h0
    simp only [Prod.mk.injEq] at hx
    rw [hx.1]
    simp only [Rows.uptoBulk]
    have := ulen_le (elems.map (·.1))
    rw [List.length_map] at this
    omega
set_option maxRecDepth 100000 in
theorem boxPoint_lifted (os : Os) (started : os.Started) (H : Type) (enc : TypeId × Value → H) (F : Stop.Interp) :
    ReturnsInHanded {} Try.checked os 7 .any ((Rows.OpenSpec.upto Rows.boxPointSpec).pre6 enc Try.prog Try.f7 Rows.boxPointUptoRow.domain false) (((Rows.OpenSpec.upto Rows.boxPointSpec).at F).post enc Try.prog Try.f7 false true false false) := by
  refine returnsInHanded_of_cond (C := Try.checked) (s := (Rows.OpenSpec.upto Rows.boxPointSpec)) (k := Rows.uptoSmall) rfl Try.own started (by kernel_rfl) Try.func7
    (OpenSpec.witness (enc := enc) (C := Try.checked) (s := (Rows.OpenSpec.upto Rows.boxPointSpec)) (k := Rows.uptoSmall) rfl false ⟨#[], #[.slice none 0 0], []⟩ 8 (by kernel_rfl) (by kernel_rfl) (by kernel_rfl) (x := ([.nil], [], [])) (by kernel_rfl) rfl (by kernel_rfl)) ?_
  intro W base args ds gs before hval0 hW _ hk _
  have hval : ∀ (j : Nat) t v, Try.f7.params[j]? = some t → args[j]? = some v → Value.okWide Try.prog W .any base t v := hval0
  have hW' := hW
  obtain ⟨p, q, hA0, hV, rfl, hfz, hnd⟩ := hW
  have hA : DataW.TrodAll enc Try.prog W 0 (fun _ => true) true Try.f7.params.toList args.toList ds p := hA0
  rw [Try.params7] at hA hval
  obtain ⟨v0, d0, rfl, rfl, h0⟩ := trodAll_one hA
  obtain ⟨rfl, rfl⟩ := trodVars_none hV
  obtain ⟨A0, l0, c0, rfl, w0⟩ := open_ilist Try.underlying38 Try.underlying3 Try.cellsInt (hval 0 38 _ rfl rfl) h0
  have hsm : Rows.uptoBulkAll _ ≤ 1048576 := of_decide_eq_true hk
  simp only [List.append_nil, Rows.uptoBulkAll] at hsm
  have bu0 : l0.length ≤ 1048576 := by have := bulk_slice Try.underlying38 h0; omega
  clear hA0 hval0
  refine (boxPoint_walk A0 l0 c0 W w0 bu0).mono fun e W' ⟨he, hu⟩ => ?_
  subst he
  exact ⟨_, rfl, law_post Try.laidOut rfl rfl Try.underlying4 (fun t ht => by simp [Try.params7] at ht; (try rcases ht with rfl); all_goals (first | (subst ht; exact ⟨by kernel_rfl, of_decide_eq_true (by kernel_rfl)⟩) | exact ⟨by kernel_rfl, of_decide_eq_true (by kernel_rfl)⟩)) hW' rfl rfl rfl hu⟩
theorem boxPoint_k1 : (Rows.boxPointUptoRow.inPlace == Try.pinned.checked.prog.inPlace 7) = true := by kernel_rfl
theorem boxPoint_k2 : (Rows.boxPointUptoRow.unfollowed == Try.pinned.checked.prog.unfollowed 7) = true := by kernel_rfl
theorem boxPoint_k3 : (Rows.boxPointUptoRow.recurses == Try.pinned.checked.prog.recurses 7) = true := by kernel_rfl
theorem boxPoint_k4 : (Rows.boxPointUptoRow.named == Try.pinned.checked.prog.varsNamed 7) = true := by kernel_rfl
theorem boxPoint_facts : joinedFacts Try.pinned.checked.prog 7 Try.f7 (Rows.OpenSpec.upto Rows.boxPointSpec).bare Rows.boxPointUptoRow = true :=
  joined_of _ _ _ _ _ Try.g1 Try.g2 Try.g3 Try.g4 Try.g5 Try.g6 Try.g7 Try.g8 Try.g9 boxPoint_k1 boxPoint_k2 boxPoint_k3 boxPoint_k4 (by kernel_rfl)
theorem boxPoint_holds : Rows.BoxPointUptoSaid :=
  OpenClaim.holds_of_cond 7 Try.f7 rfl rfl rfl rfl rfl rfl rfl ⟨rfl, rfl, rfl, rfl, rfl⟩ rfl rfl rfl rfl rfl (by kernel_rfl) Try.func7 boxPoint_facts
    (of_decide_eq_true (by kernel_rfl)) (by unfold Func.isWrapper; rw [if_neg (by decide +kernel)]; exact ⟨rfl, rfl⟩)
    (fun os started H enc _ F => boxPoint_lifted os started H enc F)
#print axioms boxPoint_holds
end Go.Proofs.Ytmnbgcbiaapldaa
