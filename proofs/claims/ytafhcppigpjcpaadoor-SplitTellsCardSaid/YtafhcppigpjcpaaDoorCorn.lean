/- The walk of span.corners, and of Product and Quotient. -/
import Derived.Test.YtafhcppigpjcpaaDoorSpanc
import Derived.Maps.AppendAt
import Derived.Shelf.Abstract
set_option linter.unusedVariables false
set_option linter.unusedSimpArgs false
namespace Go.Proofs.YtafhcppigpjcpaaDoor
open Go.RowKit
theorem Tryd.infoInt : (Tryd.prog.info? 3).map (fun i => (i.zero, i.size, i.bytes)) = some (some (.int .i64 0), 1, 8) := by kernel_rfl

def ints (l : List Int) : List Value := l.map (.int .i64)
theorem ints_snoc (l : List Int) (x : Int) : ints l ++ [.int .i64 x] = ints (l ++ [x]) := by simp [ints]

/-- Two rows of the call's own, apart from each other; below W0's end nothing has turned. -/
structure Two (W0 wr : World) (v8 v9 : Value) (L H : List Int) : Prop where
  up : Up W0 wr
  own8 : wr.ownsRow W0.heap.size 3 1 v8 L.length (ints L)
  own9 : wr.ownsRow W0.heap.size 3 1 v9 H.length (ints H)
  apart : v8.ownBlock = none ∨ v8.ownBlock ≠ v9.ownBlock

def outL (f : Int → Int → Int) (lo hi lo' hi' : Int) : Nat → List Int
  | 0 => []
  | 1 => [f lo lo', f lo hi']
  | _ => [f lo lo', f lo hi', f hi lo', f hi hi']
def inL (f : Int → Int → Int) (x lo' hi' : Int) : Nat → List Int
  | 0 => []
  | 1 => [f x lo']
  | _ => [f x lo', f x hi']

theorem Two.kept {W0 wr w' : World} {v8 v9 : Value} {L H : List Int} (h : Two W0 wr v8 v9 L H) (hg : Up wr w') : Two W0 w' v8 v9 L H :=
  ⟨h.up.call hg, h.own8.kept (row := none) ⟨hg.os, hg.tape, hg.output, hg.size, fun k hk _ => hg.block k hk⟩ (by cases v8.ownBlock <;> simp), h.own9.kept (row := none) ⟨hg.os, hg.tape, hg.output, hg.size, fun k hk _ => hg.block k hk⟩ (by cases v9.ownBlock <;> simp), h.apart⟩

theorem Two.put8 {W0 wr w' : World} {v8 v8' v9 : Value} {L H : List Int} {x : Int} (h : Two W0 wr v8 v9 L H)
    (ho : w'.ownsRow W0.heap.size 3 1 v8' (L.length + 1) (ints L ++ [.int .i64 x])) (hg : wr.grownBy w' v8.ownBlock) (ha : v8'.ownBlock = v8.ownBlock ∨ v8'.ownBlock = some wr.heap.size) :
    Two W0 w' v8' v9 (L ++ [x]) H := by
  have h9 := h.own9.lt
  refine ⟨Below.grown h.up hg h.up.le (fun k hk => (h.own8.lt k hk).1), ?_, h.own9.kept hg ?_, ?_⟩
  · rw [ints_snoc] at ho; simpa using ho
  · rcases h.apart with e | e
    · cases h9v : v9.ownBlock with
      | none => simp
      | some k => rw [e]; simp
    · exact .inr (fun e' => e e'.symm)
  · rcases ha with e | e
    · rw [e]; exact h.apart
    · rw [e]
      refine .inr (fun e' => ?_)
      have := (h9 _ e'.symm).2
      omega
theorem Two.put9 {W0 wr w' : World} {v8 v9' v9 : Value} {L H : List Int} {x : Int} (h : Two W0 wr v8 v9 L H)
    (ho : w'.ownsRow W0.heap.size 3 1 v9' (H.length + 1) (ints H ++ [.int .i64 x])) (hg : wr.grownBy w' v9.ownBlock) (ha : v9'.ownBlock = v9.ownBlock ∨ v9'.ownBlock = some wr.heap.size) :
    Two W0 w' v8 v9' L (H ++ [x]) := by
  have h8 := h.own8.lt
  refine ⟨Below.grown h.up hg h.up.le (fun k hk => (h.own9.lt k hk).1), h.own8.kept hg h.apart, ?_, ?_⟩
  · rw [ints_snoc] at ho; simpa using ho
  · rcases ha with e | e
    · rw [e]; exact h.apart
    · rw [e]
      cases h8v : v8.ownBlock with
      | none => simp
      | some k =>
        refine .inr (fun e' => ?_)
        have := (h8 _ h8v).2
        simp at e'
        omega

theorem len_rows (f : Int → Int → Int) (lo hi lo' hi' x : Int) (k j : Nat) (hk : k < 2) (hj : j < 2) : (outL f lo hi lo' hi' k ++ inL f x lo' hi' j).length ≤ 4 := by
  match k, hk, j, hj with
  | 0, _, 0, _ => simp [outL, inL]
  | 0, _, 1, _ => simp [outL, inL]
  | 1, _, 0, _ => simp [outL, inL]
  | 1, _, 1, _ => simp [outL, inL]
theorem lt_of_cell {w : World} {n o : Nat} {v : Value} (h : w.cell? ⟨n, o, none⟩ = some v) : n < w.heap.size := World.block_lt_of_cell? w _ h
theorem own_form {w : World} {base e size n : Nat} {v : Value} {xs : List Value} (h : w.ownsRow base e size v n xs) (hn : 0 < n) : ∃ g c, v = .slice (some ⟨g, 0, none⟩) n c ∧ base ≤ g ∧ g < w.heap.size := by
  rcases h.2 with ⟨_, h0⟩ | ⟨g, cap, cur, hv, hb, hg, _⟩
  · omega
  · exact ⟨g, cap, hv, hb, (Array.getElem?_eq_some_iff.1 hg).1⟩
theorem rdi_own {w : World} {base g c n : Nat} {v : Value} {l : List Int} (h : w.ownsRow base 3 1 v n (ints l)) (hv : v = .slice (some ⟨g, 0, none⟩) n c) (hg : g < w.heap.size) : RdI w (some ⟨g, 0, none⟩) l := fun _ => by
  subst hv
  refine ⟨g, 0, rfl, hg, fun k hk => ?_⟩
  have := h.cells (g := g) rfl k (.int .i64 (l[k]?.getD 0)) (by simp [ints, hk])
  rw [show (⟨g, 0, none⟩ : Addr).add k = ⟨g, 0 + k, none⟩ from by unfold Addr.add; split <;> simp_all] at this
  exact this
/-- a block that is no row of the call's own holds what it held -/
theorem cell_far {w w' : World} {n o : Nat} {v : Value} {row : Option Nat} (hg : w.grownBy w' row) (h : w.cell? ⟨n, o, none⟩ = some v) (hn : row ≠ some n) : w'.cell? ⟨n, o, none⟩ = some v :=
  hg.cell h (fun e => hn e.symm)
set_option maxRecDepth 100000 in
set_option maxHeartbeats 800000 in
theorem corners_any (K : Nat) (hen : ∀ args w, (callFunc K args).run Tryd.prog w = .ok (.enter K args) w) (f g : Int → Int → Int) (lo hi lo' hi' : Int) (w : World)
    (hof : ∀ x y W, (x = lo ∨ x = hi) → (y = lo' ∨ y = hi') → Calls Tryd.prog K #[.int .i64 x, .int .i64 y] W fun e W' => e = .returned (.tuple #[.int .i64 (f x y), .int .i64 (g x y)]) ∧ W = W') :
    Calls Tryd.prog 136 #[.agg #[.int .i64 lo, .int .i64 hi], .agg #[.int .i64 lo', .int .i64 hi'], .func (.func K) #[] #[]] w (RetX spR (cornersF f g ⟨lo, hi⟩ ⟨lo', hi'⟩) w) := by
  obtain ⟨i0, hi0, hz0, hz1, hz2⟩ := info_parts Tryd.infoInt
  have Hof := hid hof; clear hof
  go_enter Tryd.func136, Tryd.ntmps136
  go_wp2
  have hu : Up w (((((w).alloc (Obj.cells #[Value.int IntKind.i64 lo, Value.int IntKind.i64 hi] 23)).alloc (Obj.cells #[Value.int IntKind.i64 lo', Value.int IntKind.i64 hi'] 23)).alloc (Obj.cells #[Value.int IntKind.i64 0, Value.int IntKind.i64 0] 23)).alloc (Obj.cells #[Value.int IntKind.i64 lo, Value.int IntKind.i64 hi] 3)) := (((((Up.refl _).alloc _).alloc _).alloc _).alloc _)
  have hs0 : w.heap.size + 1 + 1 + 1 < (((((w).alloc (Obj.cells #[Value.int IntKind.i64 lo, Value.int IntKind.i64 hi] 23)).alloc (Obj.cells #[Value.int IntKind.i64 lo', Value.int IntKind.i64 hi'] 23)).alloc (Obj.cells #[Value.int IntKind.i64 0, Value.int IntKind.i64 0] 23)).alloc (Obj.cells #[Value.int IntKind.i64 lo, Value.int IntKind.i64 hi] 3)).heap.size := by simp
  have c0 : (((((w).alloc (Obj.cells #[Value.int IntKind.i64 lo, Value.int IntKind.i64 hi] 23)).alloc (Obj.cells #[Value.int IntKind.i64 lo', Value.int IntKind.i64 hi'] 23)).alloc (Obj.cells #[Value.int IntKind.i64 0, Value.int IntKind.i64 0] 23)).alloc (Obj.cells #[Value.int IntKind.i64 lo, Value.int IntKind.i64 hi] 3)).cell? ⟨w.heap.size + 1 + 1 + 1, 0, none⟩ = some (.int .i64 lo) := by go_simp
  have c1 : (((((w).alloc (Obj.cells #[Value.int IntKind.i64 lo, Value.int IntKind.i64 hi] 23)).alloc (Obj.cells #[Value.int IntKind.i64 lo', Value.int IntKind.i64 hi'] 23)).alloc (Obj.cells #[Value.int IntKind.i64 0, Value.int IntKind.i64 0] 23)).alloc (Obj.cells #[Value.int IntKind.i64 lo, Value.int IntKind.i64 hi] 3)).cell? ⟨w.heap.size + 1 + 1 + 1, 1, none⟩ = some (.int .i64 hi) := by go_simp
  have c2 : (((((w).alloc (Obj.cells #[Value.int IntKind.i64 lo, Value.int IntKind.i64 hi] 23)).alloc (Obj.cells #[Value.int IntKind.i64 lo', Value.int IntKind.i64 hi'] 23)).alloc (Obj.cells #[Value.int IntKind.i64 0, Value.int IntKind.i64 0] 23)).alloc (Obj.cells #[Value.int IntKind.i64 lo, Value.int IntKind.i64 hi] 3)).cell? ⟨w.heap.size + 1, 0, none⟩ = some (.int .i64 lo') := by go_simp
  have c3 : (((((w).alloc (Obj.cells #[Value.int IntKind.i64 lo, Value.int IntKind.i64 hi] 23)).alloc (Obj.cells #[Value.int IntKind.i64 lo', Value.int IntKind.i64 hi'] 23)).alloc (Obj.cells #[Value.int IntKind.i64 0, Value.int IntKind.i64 0] 23)).alloc (Obj.cells #[Value.int IntKind.i64 lo, Value.int IntKind.i64 hi] 3)).cell? ⟨w.heap.size + 1, 1, none⟩ = some (.int .i64 hi') := by go_simp
  have c4 : (((((w).alloc (Obj.cells #[Value.int IntKind.i64 lo, Value.int IntKind.i64 hi] 23)).alloc (Obj.cells #[Value.int IntKind.i64 lo', Value.int IntKind.i64 hi'] 23)).alloc (Obj.cells #[Value.int IntKind.i64 0, Value.int IntKind.i64 0] 23)).alloc (Obj.cells #[Value.int IntKind.i64 lo, Value.int IntKind.i64 hi] 3)).cell? ⟨w.heap.size + 1 + 1, 0, none⟩ = some (.int .i64 0) := by go_simp
  have c5 : (((((w).alloc (Obj.cells #[Value.int IntKind.i64 lo, Value.int IntKind.i64 hi] 23)).alloc (Obj.cells #[Value.int IntKind.i64 lo', Value.int IntKind.i64 hi'] 23)).alloc (Obj.cells #[Value.int IntKind.i64 0, Value.int IntKind.i64 0] 23)).alloc (Obj.cells #[Value.int IntKind.i64 lo, Value.int IntKind.i64 hi] 3)).cell? ⟨w.heap.size + 1 + 1, 1, none⟩ = some (.int .i64 0) := by go_simp
  have f4 : ∀ o, (((((w).alloc (Obj.cells #[Value.int IntKind.i64 lo, Value.int IntKind.i64 hi] 23)).alloc (Obj.cells #[Value.int IntKind.i64 lo', Value.int IntKind.i64 hi'] 23)).alloc (Obj.cells #[Value.int IntKind.i64 0, Value.int IntKind.i64 0] 23)).alloc (Obj.cells #[Value.int IntKind.i64 lo, Value.int IntKind.i64 hi] 3)).frozen? ⟨w.heap.size + 1 + 1, o, none⟩ = false := by intro o; go_simp
  generalize (((((w).alloc (Obj.cells #[Value.int IntKind.i64 lo, Value.int IntKind.i64 hi] 23)).alloc (Obj.cells #[Value.int IntKind.i64 lo', Value.int IntKind.i64 hi'] 23)).alloc (Obj.cells #[Value.int IntKind.i64 0, Value.int IntKind.i64 0] 23)).alloc (Obj.cells #[Value.int IntKind.i64 lo, Value.int IntKind.i64 hi] 3)) = W0 at *
  go_loopw [8, 9, 22] (fun v8 v9 i wr => ∃ k : Nat, k ≤ 2 ∧ i = .int .i64 k ∧ Two W0 wr v8 v9 (outL f lo hi lo' hi' k) (outL g lo hi lo' hi' k)) (fun _ _ i _ => 2 - (intOf i).toNat)
  case atStart => exact ⟨0, by omega, rfl, Up.refl _, World.ownsRow_nil _ _ _ _, World.ownsRow_nil _ _ _ _, .inl rfl⟩
  case round =>
    obtain ⟨k, hk, rfl, hT⟩ := hrel
    have hb := hT.up
    obtain ⟨hc, hf⟩ := bcell hb
    obtain ⟨s0, s1, s2, s3⟩ : w.heap.size < W0.heap.size ∧ w.heap.size + 1 < W0.heap.size ∧ w.heap.size + 1 + 1 < W0.heap.size ∧ w.heap.size + 1 + 1 < wr.heap.size := by have := hb.le; omega
    by_cases hlt : k < 2
    · obtain ⟨x, hx, ck, hout⟩ : ∃ x, (x = lo ∨ x = hi) ∧ W0.cell? ⟨w.heap.size + 1 + 1 + 1, k, none⟩ = some (.int .i64 x) ∧ ∀ h : Int → Int → Int, outL h lo hi lo' hi' (k + 1) = outL h lo hi lo' hi' k ++ inL h x lo' hi' 2 := by
        match k, hlt with
        | 0, _ => exact ⟨lo, .inl rfl, c0, fun h => rfl⟩
        | 1, _ => exact ⟨hi, .inr rfl, c1, fun h => rfl⟩
      have Hx := hid hx; have Hout := hid hout; clear hx hout c0 c1
      have hd : decide ((k : Int) < 2) = true := by simp; omega
      go_wp2
      have hT1 := hT.kept ((Up.refl wr).alloc (Obj.cells #[Value.int IntKind.i64 lo', Value.int IntKind.i64 hi'] 3))
      have b30 : wr.heap.size < (wr.alloc (Obj.cells #[Value.int IntKind.i64 lo', Value.int IntKind.i64 hi'] 3)).heap.size := by simp
      have d0 : (wr.alloc (Obj.cells #[Value.int IntKind.i64 lo', Value.int IntKind.i64 hi'] 3)).cell? ⟨wr.heap.size, 0, none⟩ = some (.int .i64 lo') := by go_simp
      have d1 : (wr.alloc (Obj.cells #[Value.int IntKind.i64 lo', Value.int IntKind.i64 hi'] 3)).cell? ⟨wr.heap.size, 1, none⟩ = some (.int .i64 hi') := by go_simp
      have n8 : u8.ownBlock ≠ some wr.heap.size := fun e => by have := (hT.own8.lt _ e).2; omega
      have n9 : u9.ownBlock ≠ some wr.heap.size := fun e => by have := (hT.own9.lt _ e).2; omega
      have H30 := hid (show W0.heap.size ≤ wr.heap.size from hT.up.le)
      clear hT hb hc hf
      generalize (wr.alloc (Obj.cells #[Value.int IntKind.i64 lo', Value.int IntKind.i64 hi'] 3)) = W1 at *
      generalize wr.heap.size = n30 at *
      go_loopw [8, 9, 32] (fun v8 v9 i w2 => ∃ j : Nat, j ≤ 2 ∧ i = .int .i64 j ∧ Two W0 w2 v8 v9 (outL f lo hi lo' hi' k ++ inL f x lo' hi' j) (outL g lo hi lo' hi' k ++ inL g x lo' hi' j) ∧
        w2.cell? ⟨n30, 0, none⟩ = some (.int .i64 lo') ∧ w2.cell? ⟨n30, 1, none⟩ = some (.int .i64 hi') ∧ v8.ownBlock ≠ some n30 ∧ v9.ownBlock ≠ some n30) (fun _ _ i _ => 2 - (intOf i).toNat)
      case atStart => exact ⟨0, by omega, rfl, by simpa [inL] using hT1, d0, d1, n8, n9⟩
      case round =>
        obtain ⟨j, hj, rfl, hT2, e0, e1, m8, m9⟩ := hrel
        clear d0 d1 n8 n9 hT1
        by_cases hlj : j < 2
        · obtain ⟨y, hy, ej, hin⟩ : ∃ y, (y = lo' ∨ y = hi') ∧ wr.cell? ⟨n30, j, none⟩ = some (.int .i64 y) ∧ ∀ h : Int → Int → Int, inL h x lo' hi' (j + 1) = inL h x lo' hi' j ++ [h x y] := by
            match j, hlj with
            | 0, _ => exact ⟨lo', .inl rfl, e0, fun h => rfl⟩
            | 1, _ => exact ⟨hi', .inr rfl, e1, fun h => rfl⟩
          have Hy := hid hy; have Hin := hid hin; have E0 := hid e0; have E1 := hid e1; clear hy hin e0 e1
          have hdj : decide ((j : Int) < 2) = true := by simp; omega
          have HL8 := hid (len_rows f lo hi lo' hi' x k j hlt hlj)
          have HL9 := hid (len_rows g lo hi lo' hi' x k j hlt hlj)
          have M8 := hid m8; have M9 := hid m9; clear m8 m9
          go_wp2_with (first
                        | (refine (Hof.out x y _ Hx.out Hy.out).mono ?_; rintro e w' ⟨rfl, rfl⟩)
                        | (at_builtin; refine wpList_append_own_at _ rfl (.tmp 43) (.tmp 45) _ rfl W0.heap.size 3 i0 (.int .i64 0) 1 8 Tryd.underlying38 hi0 hz0 hz1 hz2 rfl (by decide) _ _ _ rfl (hT2.own8.alloc _) ⟨wr.heap.size, 0, none⟩ 1 1 [.int .i64 (f x y)] rfl rfl (cell_one_new _ _ _) (by simp [Value.oneCell']) (by have := HL8.out; unfold maxLen; omega) (by have := HL8.out; omega) (by have := hT2.up.le; simp; omega) ?_; intro v8 w1 own8 g8 _ at8; have hT3 := hid ((hT2.kept ((Up.refl wr).alloc _)).put8 own8 g8 at8); clear own8)
                        | (at_builtin; refine wpList_append_own_at _ rfl (.tmp 47) (.tmp 49) _ rfl W0.heap.size 3 i0 (.int .i64 0) 1 8 Tryd.underlying38 hi0 hz0 hz1 hz2 rfl (by decide) _ _ _ rfl (hT3.out.own9.alloc _) ⟨w1.heap.size, 0, none⟩ 1 1 [.int .i64 (g x y)] rfl rfl (cell_one_new _ _ _) (by simp [Value.oneCell']) (by have := HL9.out; unfold maxLen; omega) (by have := HL9.out; omega) (by have := hT3.out.up.le; simp; omega) ?_; intro v9 w2 own9 g9 _ at9; have hT4 := hid ((hT3.out.kept ((Up.refl w1).alloc _)).put9 own9 g9 at9); clear own9))
          go_roundw
          case rel =>
            have hlt1 := lt_of_cell E0.out
            have e2 : ∀ {o u}, wr.cell? ⟨n30, o, none⟩ = some u → w2.cell? ⟨n30, o, none⟩ = some u := fun h =>
              cell_far g9 ((World.cell?_alloc_lt w1 _ _ (Nat.lt_of_lt_of_le hlt1 (by have := g8.size; simp at this; omega))).trans (cell_far g8 ((World.cell?_alloc_lt wr _ _ hlt1).trans h) M8.out)) M9.out
            refine ⟨j + 1, by omega, by go_num, ?_, e2 E0.out, e2 E1.out, ?_, ?_⟩
            · rw [Hin.out f, Hin.out g, ← List.append_assoc, ← List.append_assoc]; exact hT4.out
            · rcases at8 with e | e <;> rw [e]
              · exact M8.out
              · simp; omega
            · rcases at9 with e | e <;> rw [e]
              · exact M9.out
              · have := g8.size
                simp at this ⊢; omega
          case measure => simp [intOf]; omega
        · obtain rfl : j = 2 := by omega
          go_wp2
          go_roundw
          case rel => exact ⟨k + 1, by omega, by go_num, by rw [Hout.out f, Hout.out g]; exact hT2⟩
          case measure => simp [intOf]; omega
    · obtain rfl : k = 2 := by omega
      clear c0 c1 c2 c3
      obtain ⟨g8, p8, hv8, _, hl8⟩ := own_form hT.own8 (by simp [outL])
      obtain ⟨g9, p9, hv9, _, hl9⟩ := own_form hT.own9 (by simp [outL])
      have hr8 : RdI wr (some ⟨g8, 0, none⟩) (outL f lo hi lo' hi' 2) := rdi_own hT.own8 hv8 hl8
      have hr9 : RdI wr (some ⟨g9, 0, none⟩) (outL g lo hi lo' hi' 2) := rdi_own hT.own9 hv9 hl9
      rw [hv8, hv9]
      have Hu := hid hu
      clear hT hv8 hv9 hu
      go_wp2_with (first
                        | (go_at_call 158; refine (slmin_any _ (outL f lo hi lo' hi' 2) _ _ (by simp [outL]) (by simp [outL]) hr8).mono ?_; rintro e w' ⟨rfl, rfl⟩)
                        | (go_at_call 159; refine (slmax_any _ (outL g lo hi lo' hi' 2) _ _ (by simp [outL]) (by simp [outL]) hr9).mono ?_; rintro e w' ⟨rfl, rfl⟩)
                        | ((go_at_call 131; refine (fits_any _ _ _).mono ?_; rintro e w' ⟨(n|s), hx, rfl, hb1⟩) <;> obtain ⟨hc1, hf1⟩ := bcell hb1))
      all_goals
        (refine bodyPost_res rfl ?_; simp only [results, Tryd.results136]; go_simp; refine resPost_ok ?_)
        first
          | refine RetX.mk (.error n) ?_ (by rw [← hx]; rfl) rfl
          | refine RetX.mk (.ok s) ?_ (by rw [← hx]; rfl) rfl
        have hU := Hu.out
        have hle := hU.le
        (repeat (first | (with_reducible exact Up.refl _) | (with_reducible assumption) | (with_reducible refine Up.alloc ?_ _) | (with_reducible refine Up.drew ?_) | ((with_reducible refine Up.set ?_ ?_ _); rotate_left; focus (first | omega | (simp; done) | (simp; omega))) | (with_reducible refine Up.drewN ?_ _) | (with_reducible refine Up.call ?_ (by with_reducible assumption))))
end Go.Proofs.YtafhcppigpjcpaaDoor
