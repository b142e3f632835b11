/- RunBegins: the answers to a beginning are a beginning of the answers. -/
import Derived.Test.YtmjcnpolnknkkaaGreatDoorZ7
import Derived.Test.YtmjcnpolnknkkaaGreatDoorZE
import Derived.Test.YtmjcnpolnknkkaaGreatDoorPDoor
import Derived.JoinedCond
import Derived.Test.YtmjcnpolnknkkaaGreatDoorPRow
import Derived.ChangeMaps5
import Derived.IntWalk
import Derived.BigGuard
import Derived.Deep.DeepCutAuto
set_option linter.unusedVariables false
set_option linter.unusedSimpArgs false
namespace Go.Proofs.YtmjcnpolnknkkaaGreatDoor
open Go.ChangeShapes Go.WideShapes Go.ChangeAt Go.RowKit Go.Joins Go.Deep

/-- Nothing, or whole rows. -/
def Whole (t : List UInt8) (k : Nat) : Prop := k = 0 ∨ ∃ j, k = j + 1 ∧ t[j]? = some 10
theorem whole_begins {t : List UInt8} {k : Nat} (hk : k ≤ t.length) (h : Whole t k) : ∃ Z, sessF t = sessF (t.take k) ++ Z := by
  rcases h with rfl | ⟨j, rfl, hj⟩
  · exact ⟨sessF t, by rw [List.take_zero, sess_nil, List.nil_append]⟩
  · have hl : j < t.length := by omega
    have e1 : t.take (j + 1) = t.take j ++ [10] := by
      rw [List.take_succ_eq_append_getElem hl]
      rw [List.getElem?_eq_getElem hl] at hj
      injection hj with hj
      rw [hj]
    have e2 : t = t.take j ++ 10 :: t.drop (j + 1) := by
      conv => lhs; rw [← List.take_append_drop (j + 1) t, e1]
      simp
    refine ⟨sessF (t.drop (j + 1)), ?_⟩
    rw [e1]
    conv => lhs; rw [e2]
    exact sess_app _ _ _ (Nat.le_refl _)
set_option maxRecDepth 100000 in
theorem fact_said : sessF [97, 100, 100, 32, 49, 46, 48, 48, 48, 44, 50, 46, 48, 48, 48, 32, 48, 46, 53, 48, 48, 44, 48, 46, 53, 48, 48, 10, 116, 105, 109, 101, 115, 32, 45, 50, 46, 48, 48, 48, 44, 51, 46, 48, 48, 48, 32, 45, 49, 46, 48, 48, 48, 44, 52, 46, 48, 48, 48, 10, 98, 121, 32, 49, 46, 48, 48, 48, 44, 49, 46, 48, 48, 48, 32, 45, 49, 46, 48, 48, 48, 44, 49, 46, 48, 48, 48, 10, 102, 108, 121, 10, 112, 111, 119, 101, 114, 32, 45, 50, 46, 48, 48, 48, 44, 49, 46, 48, 48, 48, 32, 50, 10, 114, 97, 110, 103, 101, 32, 45, 50, 46, 48, 48, 48, 44, 49, 46, 48, 48, 48, 32, 48, 46, 48, 48, 48, 44, 56, 46, 48, 48, 48, 10, 110, 101, 119, 116, 111, 110, 32, 45, 50, 46, 48, 48, 48, 44, 49, 46, 48, 48, 48, 32, 48, 46, 48, 48, 48, 44, 56, 46, 48, 48, 48, 10, 109, 101, 101, 116, 32, 48, 46, 48, 48, 48, 44, 49, 46, 48, 48, 48, 32, 50, 46, 48, 48, 48, 44, 51, 46, 48, 48, 48, 10] = [49, 46, 53, 48, 48, 44, 50, 46, 53, 48, 48, 10, 45, 56, 46, 48, 48, 48, 44, 49, 50, 46, 48, 48, 48, 10, 69, 114, 114, 90, 101, 114, 111, 10, 98, 97, 100, 10, 48, 46, 48, 48, 48, 44, 52, 46, 48, 48, 48, 10, 45, 50, 46, 48, 48, 48, 44, 54, 46, 48, 48, 48, 10, 50, 46, 48, 48, 48, 44, 50, 46, 48, 48, 48, 10, 69, 114, 114, 78, 111, 110, 101, 10] := by kernel_rfl
set_option maxRecDepth 100000 in
set_option maxHeartbeats 8000000 in
theorem runBegins_walk (t : List UInt8) (many : Int) (w : World) (_h : (⟨t.toArray⟩ : ByteArray).size ≤ maxLen) (_h2 : I64 many) (hd : DoorR w) :
    Calls Tryz.prog 5 #[.string ⟨t.toArray⟩, .int .i64 many] w (LawEnd w) := by
  clear _h _h2
  have HD := hid hd
  have HF := hid (fun W (hW : DoorR W) => show Calls Tryz.prog 19 #[.string ⟨#[97, 100, 100, 32, 49, 46, 48, 48, 48, 44, 50, 46, 48, 48, 48, 32, 48, 46, 53, 48, 48, 44, 48, 46, 53, 48, 48, 10, 116, 105, 109, 101, 115, 32, 45, 50, 46, 48, 48, 48, 44, 51, 46, 48, 48, 48, 32, 45, 49, 46, 48, 48, 48, 44, 52, 46, 48, 48, 48, 10, 98, 121, 32, 49, 46, 48, 48, 48, 44, 49, 46, 48, 48, 48, 32, 45, 49, 46, 48, 48, 48, 44, 49, 46, 48, 48, 48, 10, 102, 108, 121, 10, 112, 111, 119, 101, 114, 32, 45, 50, 46, 48, 48, 48, 44, 49, 46, 48, 48, 48, 32, 50, 10, 114, 97, 110, 103, 101, 32, 45, 50, 46, 48, 48, 48, 44, 49, 46, 48, 48, 48, 32, 48, 46, 48, 48, 48, 44, 56, 46, 48, 48, 48, 10, 110, 101, 119, 116, 111, 110, 32, 45, 50, 46, 48, 48, 48, 44, 49, 46, 48, 48, 48, 32, 48, 46, 48, 48, 48, 44, 56, 46, 48, 48, 48, 10, 109, 101, 101, 116, 32, 48, 46, 48, 48, 48, 44, 49, 46, 48, 48, 48, 32, 50, 46, 48, 48, 48, 44, 51, 46, 48, 48, 48, 10]⟩] W (RetX strV [49, 46, 53, 48, 48, 44, 50, 46, 53, 48, 48, 10, 45, 56, 46, 48, 48, 48, 44, 49, 50, 46, 48, 48, 48, 10, 69, 114, 114, 90, 101, 114, 111, 10, 98, 97, 100, 10, 48, 46, 48, 48, 48, 44, 52, 46, 48, 48, 48, 10, 45, 50, 46, 48, 48, 48, 44, 54, 46, 48, 48, 48, 10, 50, 46, 48, 48, 48, 44, 50, 46, 48, 48, 48, 10, 69, 114, 114, 78, 111, 110, 101, 10] W) from by
    have h := run_any [97, 100, 100, 32, 49, 46, 48, 48, 48, 44, 50, 46, 48, 48, 48, 32, 48, 46, 53, 48, 48, 44, 48, 46, 53, 48, 48, 10, 116, 105, 109, 101, 115, 32, 45, 50, 46, 48, 48, 48, 44, 51, 46, 48, 48, 48, 32, 45, 49, 46, 48, 48, 48, 44, 52, 46, 48, 48, 48, 10, 98, 121, 32, 49, 46, 48, 48, 48, 44, 49, 46, 48, 48, 48, 32, 45, 49, 46, 48, 48, 48, 44, 49, 46, 48, 48, 48, 10, 102, 108, 121, 10, 112, 111, 119, 101, 114, 32, 45, 50, 46, 48, 48, 48, 44, 49, 46, 48, 48, 48, 32, 50, 10, 114, 97, 110, 103, 101, 32, 45, 50, 46, 48, 48, 48, 44, 49, 46, 48, 48, 48, 32, 48, 46, 48, 48, 48, 44, 56, 46, 48, 48, 48, 10, 110, 101, 119, 116, 111, 110, 32, 45, 50, 46, 48, 48, 48, 44, 49, 46, 48, 48, 48, 32, 48, 46, 48, 48, 48, 44, 56, 46, 48, 48, 48, 10, 109, 101, 101, 116, 32, 48, 46, 48, 48, 48, 44, 49, 46, 48, 48, 48, 32, 50, 46, 48, 48, 48, 44, 51, 46, 48, 48, 48, 10] W (by decide) hW
    rw [fact_said] at h
    exact h)
  clear hd
  by_cases hlong : 3000 < t.length
  · have HR := hid (fun W => run_long t W hlong)
    have h1 : (3000 : Int) < (t.length : Int) := by omega
    clear hlong
    go_enter Tryz.func5, Tryz.ntmps5
    go_wp2_with (first
                        | ((go_at_call 19; (with_reducible refine (HF.out _ HD.out).mono ?_); rintro e w1 ⟨x1, rfl, rfl, hb1⟩) <;> (have hle := Up.le hb1; (try simp only [World.size_alloc, World.size_setCell, World.size_drew, World.heap_drewN] at hle); clear hle))
                        | ((go_at_call 19; (with_reducible refine (HR.out _).mono ?_); rintro e w2 ⟨x2, rfl, rfl, hb2⟩) <;> (have hle := Up.le hb2; (try simp only [World.size_alloc, World.size_setCell, World.size_drew, World.heap_drewN] at hle); clear hle)))
    go_ret
    exact LawEnd.mk (by first | rfl | (simp; done)) (by (repeat (first | (with_reducible exact Up.refl _) | (with_reducible assumption) | (with_reducible refine Up.alloc ?_ _) | (with_reducible refine Up.drew ?_) | ((with_reducible refine Up.set ?_ ?_ _); rotate_left; focus (first | omega | (simp; done) | (simp; omega))) | (with_reducible refine Up.drewN ?_ _) | (with_reducible refine Up.call ?_ (by with_reducible assumption)))))
  · have h1 : ¬ (3000 : Int) < (t.length : Int) := by omega
    have ht : t.length ≤ 3000 := by omega
    have HR := hid (fun (s : List UInt8) W (hs : s.length ≤ 3000) (hW : DoorR W) => run_any s W hs hW)
    clear hlong
    go_enter Tryz.func5, Tryz.ntmps5
    go_wp2_with (first
                        | ((go_at_call 19; (with_reducible refine (HF.out _ HD.out).mono ?_); rintro e w1 ⟨x1, rfl, rfl, hb1⟩) <;> (have hle := Up.le hb1; (try simp only [World.size_alloc, World.size_setCell, World.size_drew, World.heap_drewN] at hle); clear hle)))
    go_loopw [7, 8] (fun k n wr => ∃ (k' n' : Nat), k = .int .i64 (k' : Int) ∧ n = .int .i64 (n' : Int) ∧ k' ≤ t.length ∧ n' ≤ k' ∧ Hid (many ≤ (n' : Int) → Whole t k') ∧ Up w1 wr) (fun k _ _ => t.length - (intOf k).toNat)
    case atStart => exact ⟨0, 0, rfl, rfl, Nat.zero_le _, Nat.le_refl _, fun _ => .inl rfl, by (repeat (first | (with_reducible exact Up.refl _) | (with_reducible assumption) | (with_reducible refine Up.alloc ?_ _) | (with_reducible refine Up.drew ?_) | ((with_reducible refine Up.set ?_ ?_ _); rotate_left; focus (first | omega | (simp; done) | (simp; omega))) | (with_reducible refine Up.drewN ?_ _) | (with_reducible refine Up.call ?_ (by with_reducible assumption))))⟩
    case round =>
      obtain ⟨k, n, rfl, rfl, hk, hnk, HW, hU⟩ := hrel
      have hk0 : (0 : Int) ≤ (k : Int) := by omega
      by_cases hlt : k < t.length
      · have hkl : (k : Int) < (t.length : Int) := by omega
        have hkd : decide ((k : Int) < (t.length : Int)) = true := decide_eq_true hkl
        by_cases hn : (n : Int) < many
        · have hnd : decide ((n : Int) < many) = true := decide_eq_true hn
          obtain ⟨x, hx⟩ : ∃ x, t[k]? = some x := ⟨_, List.getElem?_eq_getElem hlt⟩
          have hx3 : ∀ h, ((⟨t.toArray⟩ : ByteArray)[k]'h) = x := fun h => by
            obtain ⟨h1, h2⟩ := List.getElem?_eq_some_iff.1 hx
            exact h2
          have hx4 : ∀ h, ((⟨t.toArray⟩ : ByteArray)[k]'h).toNat = x.toNat := fun h => congrArg UInt8.toNat (hx3 h)
          obtain ⟨xn, hxn⟩ : ∃ n, x.toNat = n := ⟨_, rfl⟩
          rw [hxn] at hx4
          have HJ := hid hlt
          by_cases hc : x = 10
          · have hxc : xn = 10 := by rw [← hxn, hc]; rfl
            rw [hxc] at hx4
            have HW2 := hid (show many ≤ ((n + 1 : Nat) : Int) → Whole t (k + 1) from fun _ => .inr ⟨k, rfl, by rw [hx, hc]⟩)
            clear hx hx3 hxn hc hxc
            go_wp2
            go_roundw
            case rel => exact ⟨k + 1, n + 1, by go_num, by go_num, HJ.out, by omega, HW2.out, hU⟩
            case measure => have := HJ.out; simp [intOf]; omega
          · have hxc : ¬ xn = 10 := fun e => hc (UInt8.toNat_inj.1 (by rw [hxn, e]; rfl))
            have hxc2 : ((xn : Int) == 10) = false := beq_eq_false_iff_ne.2 (by omega)
            have HW2 := hid (show many ≤ (n : Int) → Whole t (k + 1) from fun h => by omega)
            clear hx hx3 hxn hc
            go_wp2
            go_roundw
            case rel => exact ⟨k + 1, n, by go_num, rfl, HJ.out, by omega, HW2.out, hU⟩
            case measure => have := HJ.out; simp [intOf]; omega
        · have hnd : decide ((n : Int) < many) = false := decide_eq_false hn
          obtain ⟨Z, hZ⟩ := whole_begins hk (HW.out (by omega))
          have hx1 := ba_ext t k
          have hB := sess_len ht
          have HA := hid (fun W hW => HR.out (t.take k) W (by rw [List.length_take]; omega) hW)
          have HB := hid (fun W hW => HR.out t W ht hW)
          rw [← hx1] at HA
          rw [hZ] at HB hB
          have hk2 : (k : Int) ≤ (t.length : Int) := by omega
          generalize sessF (t.take k) = A at *
          clear hZ
          have hA1 : (A.length : Int) ≤ ((A ++ Z).length : Int) := by simp; omega
          have hA2 : A.length ≤ (A ++ Z).length := by simp
          have hA3 : decide ((A.length : Int) ≤ ((A ++ Z).length : Int)) = true := decide_eq_true hA1
          have hx2 : (⟨(A ++ Z).toArray⟩ : ByteArray).extract 0 A.length = ⟨A.toArray⟩ := by rw [ba_ext, List.take_left' rfl]
          generalize hB' : A ++ Z = B at *
          clear hx1 hB'
          go_wp2_with (first
                        | ((go_at_call 19; (with_reducible refine (HA.out _ (HD.out.up (by (repeat (first | (with_reducible exact Up.refl _) | (with_reducible assumption) | (with_reducible refine Up.alloc ?_ _) | (with_reducible refine Up.drew ?_) | ((with_reducible refine Up.set ?_ ?_ _); rotate_left; focus (first | omega | (simp; done) | (simp; omega))) | (with_reducible refine Up.drewN ?_ _) | (with_reducible refine Up.call ?_ (by with_reducible assumption))))))).mono ?_); rintro e w2 ⟨x2, rfl, rfl, hb2⟩) <;> (have hle := Up.le hb2; (try simp only [World.size_alloc, World.size_setCell, World.size_drew, World.heap_drewN] at hle); clear hle))
                        | ((go_at_call 19; (with_reducible refine (HB.out _ (HD.out.up (by (repeat (first | (with_reducible exact Up.refl _) | (with_reducible assumption) | (with_reducible refine Up.alloc ?_ _) | (with_reducible refine Up.drew ?_) | ((with_reducible refine Up.set ?_ ?_ _); rotate_left; focus (first | omega | (simp; done) | (simp; omega))) | (with_reducible refine Up.drewN ?_ _) | (with_reducible refine Up.call ?_ (by with_reducible assumption))))))).mono ?_); rintro e w3 ⟨x3, rfl, rfl, hb3⟩) <;> (have hle := Up.le hb3; (try simp only [World.size_alloc, World.size_setCell, World.size_drew, World.heap_drewN] at hle); clear hle)))
          all_goals (try rw [hx2])
          go_ret
          exact LawEnd.mk (by first | rfl | (simp; done)) (by (repeat (first | (with_reducible exact Up.refl _) | (with_reducible assumption) | (with_reducible refine Up.alloc ?_ _) | (with_reducible refine Up.drew ?_) | ((with_reducible refine Up.set ?_ ?_ _); rotate_left; focus (first | omega | (simp; done) | (simp; omega))) | (with_reducible refine Up.drewN ?_ _) | (with_reducible refine Up.call ?_ (by with_reducible assumption)))))
      · obtain ⟨Z, hZ⟩ : ∃ Z, sessF t = sessF (t.take k) ++ Z := ⟨[], by rw [List.take_of_length_le (by omega), List.append_nil]⟩
        have hkl : ¬ (k : Int) < (t.length : Int) := by omega
        have hkd : decide ((k : Int) < (t.length : Int)) = false := decide_eq_false hkl
        have hx1 := ba_ext t k
        have hB := sess_len ht
        have HA := hid (fun W hW => HR.out (t.take k) W (by rw [List.length_take]; omega) hW)
        have HB := hid (fun W hW => HR.out t W ht hW)
        rw [← hx1] at HA
        rw [hZ] at HB hB
        have hk2 : (k : Int) ≤ (t.length : Int) := by omega
        generalize sessF (t.take k) = A at *
        clear hZ
        have hA1 : (A.length : Int) ≤ ((A ++ Z).length : Int) := by simp; omega
        have hA2 : A.length ≤ (A ++ Z).length := by simp
        have hA3 : decide ((A.length : Int) ≤ ((A ++ Z).length : Int)) = true := decide_eq_true hA1
        have hx2 : (⟨(A ++ Z).toArray⟩ : ByteArray).extract 0 A.length = ⟨A.toArray⟩ := by rw [ba_ext, List.take_left' rfl]
        generalize hB' : A ++ Z = B at *
        clear hx1 hB'
        go_wp2_with (first
                        | ((go_at_call 19; (with_reducible refine (HA.out _ (HD.out.up (by (repeat (first | (with_reducible exact Up.refl _) | (with_reducible assumption) | (with_reducible refine Up.alloc ?_ _) | (with_reducible refine Up.drew ?_) | ((with_reducible refine Up.set ?_ ?_ _); rotate_left; focus (first | omega | (simp; done) | (simp; omega))) | (with_reducible refine Up.drewN ?_ _) | (with_reducible refine Up.call ?_ (by with_reducible assumption))))))).mono ?_); rintro e w2 ⟨x2, rfl, rfl, hb2⟩) <;> (have hle := Up.le hb2; (try simp only [World.size_alloc, World.size_setCell, World.size_drew, World.heap_drewN] at hle); clear hle))
                        | ((go_at_call 19; (with_reducible refine (HB.out _ (HD.out.up (by (repeat (first | (with_reducible exact Up.refl _) | (with_reducible assumption) | (with_reducible refine Up.alloc ?_ _) | (with_reducible refine Up.drew ?_) | ((with_reducible refine Up.set ?_ ?_ _); rotate_left; focus (first | omega | (simp; done) | (simp; omega))) | (with_reducible refine Up.drewN ?_ _) | (with_reducible refine Up.call ?_ (by with_reducible assumption))))))).mono ?_); rintro e w3 ⟨x3, rfl, rfl, hb3⟩) <;> (have hle := Up.le hb3; (try simp only [World.size_alloc, World.size_setCell, World.size_drew, World.heap_drewN] at hle); clear hle)))
        all_goals (try rw [hx2])
        go_ret
        exact LawEnd.mk (by first | rfl | (simp; done)) (by (repeat (first | (with_reducible exact Up.refl _) | (with_reducible assumption) | (with_reducible refine Up.alloc ?_ _) | (with_reducible refine Up.drew ?_) | ((with_reducible refine Up.set ?_ ?_ _); rotate_left; focus (first | omega | (simp; done) | (simp; omega))) | (with_reducible refine Up.drewN ?_ _) | (with_reducible refine Up.call ?_ (by with_reducible assumption)))))
set_option maxRecDepth 100000 in
theorem runBegins_lifted (os : Os) (started : os.Started) (H : Type) (enc : TypeId × Value → H) :
    ReturnsInHanded {} Tryz.checked os 5 .any (fun w args => (Rows.runBeginsSpec.pre enc Tryz.prog Tryz.f5 [] false w args ∧ laidMetH Tryz.prog laidR9 w) ∧ sizedMet enc Tryz.prog Tryz.f5 (OpenSpec.ofChange Rows.runBeginsSpec) false w args) (Rows.runBeginsSpec.post enc Tryz.prog Tryz.f5 false true false false) := by
  refine returnsInHanded_of_change_and (C := Tryz.checked) (X := fun w _ => laidMetH Tryz.prog laidR9 w) (fun _ _ _ hh h => h.of_heap hh) Tryz.own started (by kernel_rfl) Tryz.func5
    (ChangeSpec.witness_at (enc := enc) (C := Tryz.checked) (os := os) (X := fun w _ => laidMetH Tryz.prog laidR9 w) false (laidWorldR os) #[.string ⟨#[]⟩, .int .i64 0] 8 rfl (by kernel_rfl) (by kernel_rfl) (by kernel_rfl) (by kernel_rfl) (by kernel_rfl) (laidWorldR_met os _)) ?_
  intro W base args ds gs before hval0 hW _ _ hL _
  have hdoor := doorR_of_laid hL
  have hval : ∀ (j : Nat) t v, Tryz.f5.params[j]? = some t → args[j]? = some v → Value.okWide Tryz.prog W .any base t v := hval0
  have hW' := hW
  obtain ⟨p, q, hA0, hV, rfl, hfz, hnd⟩ := hW
  have hA : DataW.TrodAll enc Tryz.prog W 0 (fun _ => true) true Tryz.f5.params.toList args.toList ds p := hA0
  rw [Tryz.params5] at hA hval
  obtain ⟨v0, v1, d0, d1, p0, p1, rfl, rfl, rfl, h0, h1⟩ := trodAll_two hA
  obtain ⟨rfl, rfl⟩ := trodVars_none hV
  obtain ⟨z0, rfl, e0, f0, w0⟩ := Go.ChangeMaps.open_string Tryz.underlying9 (hval 0 9 _ rfl rfl) h0
  obtain ⟨l0, rfl⟩ : ∃ l : List UInt8, z0 = ⟨l.toArray⟩ := ⟨z0.data.toList, by cases z0; rfl⟩
  (try subst e0)
  obtain ⟨n1, rfl, w1⟩ := open_i64 Tryz.underlying3 (hval 1 3 _ rfl rfl) h1
  clear hA0 hval0
  refine (runBegins_walk l0 n1 W w0 w1 hdoor).mono fun e W' ⟨he, hu⟩ => ?_
  subst he
  exact ⟨_, rfl, law_post Tryz.laidOut rfl rfl Tryz.underlying4 (fun t ht => by simp [Tryz.params5] at ht; (try rcases ht with rfl | rfl); all_goals (first | (subst ht; exact ⟨by kernel_rfl, of_decide_eq_true (by kernel_rfl)⟩) | exact ⟨by kernel_rfl, of_decide_eq_true (by kernel_rfl)⟩)) hW' rfl rfl rfl hu⟩
theorem runBegins_k1 : (Rows.runBeginsRow.inPlace == Tryz.pinned.checked.prog.inPlace 5) = true := by kernel_rfl
theorem runBegins_k2 : (Rows.runBeginsRow.unfollowed == Tryz.pinned.checked.prog.unfollowed 5) = true := by kernel_rfl
theorem runBegins_k3 : (Rows.runBeginsRow.recurses == Tryz.pinned.checked.prog.recurses 5) = true := by kernel_rfl
theorem runBegins_k4 : (Rows.runBeginsRow.named == Tryz.pinned.checked.prog.varsNamed 5) = true := by kernel_rfl
theorem runBegins_facts : joinedFacts Tryz.pinned.checked.prog 5 Tryz.f5 Rows.runBeginsSpec Rows.runBeginsRow = true :=
  joined_of _ _ _ _ _ Tryz.g1 Tryz.g2 Tryz.g3 Tryz.g4 Tryz.g5 Tryz.g6 Tryz.g7 Tryz.g8 Tryz.g9 runBegins_k1 runBegins_k2 runBegins_k3 runBegins_k4 (by kernel_rfl)
theorem runBegins_bare : Rows.RunBeginsSaid :=
  OpenClaim.holds_of_wide 5 Tryz.f5 rfl rfl rfl rfl rfl rfl rfl ⟨rfl, rfl, rfl, rfl, rfl⟩ rfl rfl rfl rfl rfl (by kernel_rfl) Tryz.func5 runBegins_facts
    (of_decide_eq_true (by kernel_rfl)) (by unfold Func.isWrapper; rw [if_neg (by decide +kernel)]; exact ⟨rfl, rfl⟩)
    (fun os started H enc _ => runBegins_lifted os started H enc)
theorem runBegins_holds : Rows.RunBeginsCardSaid :=
  Claim7.holds_tied_plain_at .later [] [.data, .data, .data, .data, .handle, .sentinel, .sentinel, .wider, .pinned] true (true, "7541a4b10e5a870dcee6297c57c84f3c6ed26500fe45205808b4d9de7145fdb0") true runBegins_bare (fun _ h => by cases h) (by kernel_rfl) (fun _ h => by cases h) runBegins_row_tie rfl ⟨rfl, rfl⟩ door_main rfl
    (fun f fn hf hfn => by
      obtain rfl : f = 5 := Option.some.inj ((show Tryz.prog.funcNamed "spanmeadow/spanlaw3.RunBegins" = some 5 by kernel_rfl).symm.trans hf) |>.symm
      obtain rfl : fn = Tryz.f5 := (Option.some.inj (Tryz.func5.symm.trans hfn)).symm
      exact ⟨door_looks.symm, fun j t ht => by
        rw [Tryz.params5] at ht
        have hm : t ∈ [9, 3] := by
          have := Array.mem_of_getElem? ht
          simpa using this
        simp only [List.mem_cons, List.not_mem_nil, or_false] at hm
        rcases hm with rfl | rfl
        · exact (show Tryz.prog.wantsStandIn 9 = false by kernel_rfl)
        · exact (show Tryz.prog.wantsStandIn 3 = false by kernel_rfl)⟩)
    (by kernel_rfl)
#print axioms runBegins_holds
end Go.Proofs.YtmjcnpolnknkkaaGreatDoor
