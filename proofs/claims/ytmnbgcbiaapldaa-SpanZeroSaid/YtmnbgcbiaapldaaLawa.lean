/- SpanZero: a span and nothing added to it is itself; less itself 0 is in it; it meets itself, and is its own hull. -/
import Derived.Test.YtmnbgcbiaapldaaSpane
import Derived.Test.YtmnbgcbiaapldaaRow
import Derived.Test.YtmnbgcbiaapldaaFacts
namespace Go.Proofs.Ytmnbgcbiaapldaa
open Go.ChangeShapes Go.WideShapes Go.ChangeAt Go.RowKit Go.Joins Go.Deep

theorem add_zero_ok {a : Sp} (h : checkF a = none) : twoF sumF a ⟨0, 0⟩ = .ok a := by
  have hr := checkF_none.1 h
  have h0 : checkF ⟨0, 0⟩ = none := by decide
  simp only [twoF, h, h0, sumF, fitsF, Int.add_zero]
  rw [if_pos ⟨hr.1, hr.2.1⟩]
theorem meet_self_ok {a : Sp} (h : checkF a = none) : twoF comF a a = .ok a := by
  have hr := checkF_none.1 h
  simp only [twoF, h, comF, Int.max_self, Int.min_self]
  rw [if_neg (by have := hr.2.2; omega)]
theorem hull_self_ok {a : Sp} (h : checkF a = none) : twoF (fun a b => .ok (bothF a b)) a a = .ok a := by
  simp only [twoF, h, bothF, Int.max_self, Int.min_self]
theorem less_self {a s : Sp} (h : checkF a = none) (hs : twoF restF a a = .ok s) : s.lo ≤ 0 ∧ 0 ≤ s.hi ∧ s.lo = -s.hi ∧ M s.hi := by
  have hr := checkF_none.1 h
  simp only [twoF, h, restF, fitsF] at hs
  split at hs
  · injection hs with hs
    subst hs
    have := hr.2.2
    dsimp only at *
    refine ⟨by omega, by omega, by omega, ‹M _ ∧ M _›.2⟩
  · cases hs
theorem checkE_ne (n : Nat) (a : Sp) : checkF a = some n → True := fun _ => trivial
theorem two_left {f : Sp → Sp → Except Nat Sp} {a b : Sp} {n : Nat} (h : checkF a = some n) : twoF f a b = .error n := by simp [twoF, h]

set_option maxHeartbeats 1000000 in
theorem spanZero_walk (lo hi : Int) (w : World) :
    Calls Try.prog 4 #[.agg #[.int .i64 lo, .int .i64 hi]] w fun e w' => e = .returned (.bool true) ∧ Up w w' := by
  cases ha : checkF ⟨lo, hi⟩ with
  | some n =>
    have H1 := hid (two_left (f := sumF) (b := ⟨0, 0⟩) ha)
    have Ha := hid ha; clear ha
    go_enter Try.func4, Try.ntmps4
    go_wp2_with (first
      | ((go_at_call 35; refine (sadd_any _ _ _ _ _).mono ?_; rintro e w1 ⟨x, hx, rfl, hb1⟩); rw [H1.out] at hx; subst hx; obtain ⟨hc1, hf1⟩ := bcell hb1; have _ : w.heap.size < w1.heap.size := by have hle := Up.le hb1; (try simp only [World.size_alloc, World.size_setCell, World.size_drew] at hle); omega)
      | ((go_at_call 36; refine (check_any _ _ _).mono ?_; rintro e w2 ⟨x, hx, rfl, hb2⟩); rw [Ha.out] at hx; subst hx; obtain ⟨hc2, hf2⟩ := bcell hb2))
    go_ret
    refine ⟨rfl, ?_⟩
    (repeat (first | exact Up.refl _ | assumption | refine Up.alloc ?_ _ | refine Up.call ?_ (by assumption) | refine Up.set ?_ (by simp; try omega) _ | refine Up.drew ?_))
  | none =>
    have H1 := hid (add_zero_ok ha)
    have H2 := hid (meet_self_ok ha)
    have H3 := hid (hull_self_ok ha)
    have H4 := hid (fun s => less_self (s := s) ha)
    clear ha
    go_enter Try.func4, Try.ntmps4
    go_wp2_with (first
      | ((go_at_call 35; refine (sadd_any _ _ _ _ _).mono ?_; rintro e w1 ⟨x, hx, rfl, hb1⟩; rw [H1.out] at hx; subst hx) <;> (obtain ⟨hc1, hf1⟩ := bcell hb1; have _ : w.heap.size < w1.heap.size := by have hle := Up.le hb1; (try simp only [World.size_alloc, World.size_setCell, World.size_drew] at hle); omega))
      | ((go_at_call 37; refine (sless_any _ _ _ _ _).mono ?_; rintro e w2 ⟨x, hx, rfl, hb2⟩; rcases x with n | s; rotate_left; obtain ⟨_, _, h7, _, _⟩ := H4.out s hx) <;> (obtain ⟨hc2, hf2⟩ := bcell hb2; obtain ⟨_, _⟩ : w.heap.size < w2.heap.size ∧ w1.heap.size < w2.heap.size := by have hle := Up.le hb2; (try simp only [World.size_alloc, World.size_setCell, World.size_drew] at hle); omega))
      | ((go_at_call 38; refine (smeet_any _ _ _ _ _).mono ?_; rintro e w3 ⟨x, hy, rfl, hb3⟩; rw [H2.out] at hy; subst hy) <;> (obtain ⟨hc3, hf3⟩ := bcell hb3; obtain ⟨_, _, _⟩ : w.heap.size < w3.heap.size ∧ w1.heap.size < w3.heap.size ∧ w2.heap.size < w3.heap.size := by have hle := Up.le hb3; (try simp only [World.size_alloc, World.size_setCell, World.size_drew] at hle); omega))
      | ((go_at_call 39; refine (shull_any _ _ _ _ _).mono ?_; rintro e w4 ⟨x, hy, rfl, hb4⟩; rw [H3.out] at hy; subst hy) <;> (obtain ⟨hc4, hf4⟩ := bcell hb4; obtain ⟨_, _, _, _⟩ : w.heap.size < w4.heap.size ∧ w1.heap.size < w4.heap.size ∧ w2.heap.size < w4.heap.size ∧ w3.heap.size < w4.heap.size := by have hle := Up.le hb4; (try simp only [World.size_alloc, World.size_setCell, World.size_drew] at hle); omega)))
    all_goals
      go_ret
      refine ⟨rfl, ?_⟩
      (repeat (first | exact Up.refl _ | assumption | refine Up.alloc ?_ _ | refine Up.call ?_ (by assumption) | refine Up.set ?_ (by simp; try omega) _ | refine Up.drew ?_))
set_option maxRecDepth 100000 in
theorem spanZero_lifted (os : Os) (started : os.Started) (H : Type) (enc : TypeId × Value → H) :
    ReturnsInHanded {} Try.checked os 4 .any (Rows.spanZeroSpec.pre6 enc Try.prog Try.f4 Rows.spanZeroRow.domain false) (Rows.spanZeroSpec.post enc Try.prog Try.f4 false true false false) := by
  refine returnsInHanded_of_change (C := Try.checked) Try.own started (by kernel_rfl) Try.func4
    (ChangeSpec.witness6 (enc := enc) (C := Try.checked) false ⟨#[], #[.agg #[.int .i64 0, .int .i64 0]], []⟩ 8 (by kernel_rfl) (by kernel_rfl) (by kernel_rfl) (by kernel_rfl)) ?_
  intro W base args ds gs before hval0 hW hcnd _
  have hval : ∀ (j : Nat) t v, Try.f4.params[j]? = some t → args[j]? = some v → Value.okWide Try.prog W .any base t v := hval0
  have hW' := hW
  obtain ⟨p, q, hA0, hV, rfl, hfz, hnd⟩ := hW
  have hA : DataW.TrodAll enc Try.prog W 0 (fun _ => true) true Try.f4.params.toList args.toList ds p := hA0
  rw [Try.params4] at hA hval
  obtain ⟨v0, d0, rfl, rfl, h0⟩ := trodAll_one hA
  obtain ⟨rfl, rfl⟩ := trodVars_none hV
  obtain ⟨lo, hi, rfl, _, _⟩ := open_span (ti := 3) Try.underlying27 rfl rfl Try.underlying3 (by kernel_rfl) Try.cellsSpan (hval 0 27 _ rfl rfl) h0
  clear hA0 hval0
  refine (spanZero_walk lo hi W).mono fun e W' ⟨he, hu⟩ => ?_
  subst he
  exact ⟨_, rfl, law_post Try.laidOut rfl rfl Try.underlying4 (fun t ht => by simp [Try.params4] at ht; subst ht; exact ⟨by kernel_rfl, of_decide_eq_true (by kernel_rfl)⟩) hW' rfl rfl rfl hu⟩

theorem spanZero_k1 : (Rows.spanZeroRow.inPlace == Try.pinned.checked.prog.inPlace 4) = true := by kernel_rfl
theorem spanZero_k2 : (Rows.spanZeroRow.unfollowed == Try.pinned.checked.prog.unfollowed 4) = true := by kernel_rfl
theorem spanZero_k3 : (Rows.spanZeroRow.recurses == Try.pinned.checked.prog.recurses 4) = true := by kernel_rfl
theorem spanZero_k4 : (Rows.spanZeroRow.named == Try.pinned.checked.prog.varsNamed 4) = true := by kernel_rfl
theorem spanZero_facts : joinedFacts Try.pinned.checked.prog 4 Try.f4 Rows.spanZeroSpec Rows.spanZeroRow = true :=
  joined_of _ _ _ _ _ Try.g1 Try.g2 Try.g3 Try.g4 Try.g5 Try.g6 Try.g7 Try.g8 Try.g9 spanZero_k1 spanZero_k2 spanZero_k3 spanZero_k4 (by kernel_rfl)
theorem spanZero_holds : Rows.SpanZeroSaid :=
  OpenClaim.holds_of_wide 4 Try.f4 rfl rfl rfl rfl rfl rfl rfl ⟨rfl, rfl, rfl, rfl, rfl⟩ rfl rfl rfl rfl rfl (by kernel_rfl) Try.func4 spanZero_facts
    (of_decide_eq_true (by kernel_rfl)) (by unfold Func.isWrapper; rw [if_neg (by decide +kernel)]; exact ⟨rfl, rfl⟩)
    (fun os started H enc _ => spanZero_lifted os started H enc)
#print axioms spanZero_holds
end Go.Proofs.Ytmnbgcbiaapldaa
