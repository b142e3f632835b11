/- The walk of the reference's Find; Sure. -/
import Derived.Test.YtmjcnpolnknkkaaGreatDoorPRfe
import Derived.Test.YtmjcnpolnknkkaaGreatDoorPRootb
set_option linter.unusedVariables false
set_option linter.unusedSimpArgs false
namespace Go.Proofs.YtmjcnpolnknkkaaGreatDoor
open Go.RowKit

theorem over_num {x : Sp} {p : List Int} {e : Nat} (h : overF p x = .error e) : e = 4 ∨ e = 5 := by
  unfold overF at h
  split at h
  · rename_i h1; injection h with h; subst h; exact tight_num h1
  · split at h
    · rename_i h1; injection h with h; subst h; exact .inl (steep_err h1)
    · dsimp only at h
      split at h
      · cases h
      · split at h
        · rename_i h1; injection h with h; subst h; exact .inl (nested_err _ _ h1)
        · split at h
          · rename_i h1; injection h with h; subst h; exact .inl (nested_err _ _ h1)
          · cases h
theorem rfind_num {p : List Int} {least : Int} (hl : 1 ≤ least) : ∀ (f : Nat) (x : Sp) (out : List Sp) (e : Nat), (x.hi - x.lo).toNat ≤ f → findG p least f x out = .error e → e = 4 ∨ e = 5
  | f, x, out, e, hf, h => by
    unfold findG at h
    split at h
    · rename_i h1; injection h with h; subst h; exact over_num h1
    · split at h
      · cases h
      · split at h
        · split at h
          · injection h with h; omega
          · cases h
        · rename_i hw
          match f, hf, h with
          | 0, hf, h => omega
          | f + 1, hf, h =>
            dsimp only at h
            have hh : halfF x = (x.lo + x.hi) / 2 := rfl
            split at h
            · rename_i h1
              injection h with h; subst h
              exact rfind_num hl f ⟨x.lo, halfF x⟩ out _ (by dsimp only; omega) h1
            · exact rfind_num hl f ⟨halfF x, x.hi⟩ _ e (by dsimp only; omega) h
/-- A slice of spans with the number of a fault. -/
def slNn (w : World) : Except Nat (List Sp) → Value → Prop
  | .ok l, v => ∃ A c, v = .tuple #[.slice A l.length c, .int .i64 0] ∧ RdS w A l ∧ l.length ≤ c
  | .error n, v => v = .tuple #[.slice none 0 0, .int .i64 n]
theorem slNn_ok {w : World} {l : List Sp} {v : Value} (h : slNn w (.ok l) v) : ∃ A c, v = .tuple #[.slice A l.length c, .int .i64 0] ∧ RdS w A l ∧ l.length ≤ c := h
theorem slNn_error {w : World} {n : Nat} {v : Value} (h : slNn w (.error n) v) : v = .tuple #[.slice none 0 0, .int .i64 n] := h
/-- What the reference's Find comes to. -/
def FdPost (base : Nat) (v : Value) (w : World) (r : Except Nat (List Sp)) (e : Ending) (w' : World) : Prop :=
  w.grownBy w' v.ownBlock ∧ match r with
  | .ok o => ∃ A c, e = .returned (.tuple #[.slice A o.length c, .int .i64 0]) ∧ OwnS w' base (.slice A o.length c) o ∧ ((Value.slice A o.length c).ownBlock = v.ownBlock ∨ ∃ g, (Value.slice A o.length c).ownBlock = some g ∧ w.heap.size ≤ g)
  | .error n => e = .returned (.tuple #[.slice none 0 0, .int .i64 n])
theorem FdPost.ok {base : Nat} {v : Value} {w w' : World} {o : List Sp} {e : Ending} (h : FdPost base v w (.ok o) e w') : w.grownBy w' v.ownBlock ∧ ∃ A c, e = .returned (.tuple #[.slice A o.length c, .int .i64 0]) ∧ OwnS w' base (.slice A o.length c) o ∧ ((Value.slice A o.length c).ownBlock = v.ownBlock ∨ ∃ g, (Value.slice A o.length c).ownBlock = some g ∧ w.heap.size ≤ g) := h
theorem FdPost.err {base n : Nat} {v : Value} {w w' : World} {e : Ending} (h : FdPost base v w (.error n) e w') : w.grownBy w' v.ownBlock ∧ e = .returned (.tuple #[.slice none 0 0, .int .i64 n]) := h
set_option maxRecDepth 100000 in
set_option maxHeartbeats 8000000 in
theorem rfind_leaf (base : Nat) (A : Option Addr) (p : List Int) (c : Nat) (least : Int) (h0 : 0 < p.length) (h5 : p.length ≤ 5) (hcap : p.length ≤ c) (hp : ∀ n ∈ p, M n)
    (f : Nat) (lo hi : Int) (Av : Option Addr) (cv : Nat) (out : List Sp) (w : World) (hx : Rt ⟨lo, hi⟩) (ho : out.length ≤ 32) (hown : OwnS w base (.slice Av out.length cv) out) (hbase : base ≤ w.heap.size) (hr : RdI w A p)
    (hleaf : ∀ s, overF p ⟨lo, hi⟩ = .ok s → zeroF s = true → hi - lo ≤ least) :
    Calls Tryz.prog 66 #[.slice A p.length c, .agg #[.int .i64 lo, .int .i64 hi], .int .i64 least, .slice Av out.length cv] w (FdPost base (.slice Av out.length cv) w (findG p least f ⟨lo, hi⟩ out)) := by
  have Hr := hid hr; have Hown := hid hown; have Ho := hid ho; have Hp := hid hp; have Hx := hid hx; have H0 := hid h0; have H5 := hid h5; have Hcap := hid hcap
  have Hbase := hid hbase
  obtain ⟨i0, hi0, hz0, hz1, hz2⟩ := info_parts Tryz.infoSpan
  obtain ⟨⟨x1, x2⟩, ⟨x3, x4⟩, x5⟩ := hx
  dsimp only at x1 x2 x3 x4 x5
  have hw1 : 0 ≤ hi - lo := by omega
  have hw2 : hi - lo ≤ 2000000000 := by omega
  clear hr hown ho hp h0 h5 hcap hbase x1 x2 x3 x4 x5
  cases hov : overF p ⟨lo, hi⟩ with
  | error e1 =>
    rw [findG_err hov]
    have q1 := nn45 (over_num hov)
    have Hov := hid hov; clear hov
    go_enter Tryz.func66, Tryz.ntmps66
    go_wp2_with (first
      | ((go_at_call 64; (with_reducible refine (rrange_any _ _ _ _ _ _ H0.out H5.out (Hr.out.up (by (repeat (first | (with_reducible exact Up.refl _) | (with_reducible assumption) | (with_reducible refine Up.alloc ?_ _) | (with_reducible refine Up.drew ?_) | ((with_reducible refine Up.set ?_ ?_ _); rotate_left; focus (first | omega | (simp; done) | (simp; omega))) | (with_reducible refine Up.drewN ?_ _) | (with_reducible refine Up.call ?_ (by with_reducible assumption)))))) Hp.out Hx.out).mono ?_); rintro e w1 ⟨y1, hy1, rfl, hb1⟩ <;> (rw [Hov.out] at hy1; subst hy1)) <;> (have hle := Up.le hb1; (try simp only [World.size_alloc, World.size_setCell, World.size_drew, World.heap_drewN] at hle); (try (apply bk hb1 (w.heap.size); (focus (go_simp; rfl)); (focus (go_simp; rfl)); (focus (intro o; go_simp)); (try clear c_0_0 c_0_1 f_0); intro c_0_0 c_0_1 f_0 _; (try (apply bk hb1 (w.heap.size + 1); (focus (go_simp; rfl)); (focus (go_simp; rfl)); (focus (intro o; go_simp)); (try clear c_1_0 c_1_1 f_1); intro c_1_0 c_1_1 f_1 _)))); clear hle; (try (apply old_keep (w0 := w) (w := w1); (focus ((repeat (first | (with_reducible exact Up.refl _) | (with_reducible assumption) | (with_reducible refine Up.alloc ?_ _) | (with_reducible refine Up.drew ?_) | ((with_reducible refine Up.set ?_ ?_ _); rotate_left; focus (first | omega | (simp; done) | (simp; omega))) | (with_reducible refine Up.drewN ?_ _) | (with_reducible refine Up.call ?_ (by with_reducible assumption)))))); intro y z; (try clear hUp); (try clear hOld); have hUp := y; have hOld := z; clear y z)))))
    go_ret2
    refine ⟨grown_any (by (repeat (first | (with_reducible exact Up.refl _) | (with_reducible assumption) | (with_reducible refine Up.alloc ?_ _) | (with_reducible refine Up.drew ?_) | ((with_reducible refine Up.set ?_ ?_ _); rotate_left; focus (first | omega | (simp; done) | (simp; omega))) | (with_reducible refine Up.drewN ?_ _) | (with_reducible refine Up.call ?_ (by with_reducible assumption))))) _, rfl⟩
  | ok s =>
    cases hz : zeroF s with
    | false =>
      rw [findG_none hov hz]
      have Hz := hid (show zeroF ⟨s.lo, s.hi⟩ = false from hz)
      have Hov := hid hov; clear hov hz
      go_enter Tryz.func66, Tryz.ntmps66
      go_wp2_with (first
        | ((go_at_call 64; (with_reducible refine (rrange_any _ _ _ _ _ _ H0.out H5.out (Hr.out.up (by (repeat (first | (with_reducible exact Up.refl _) | (with_reducible assumption) | (with_reducible refine Up.alloc ?_ _) | (with_reducible refine Up.drew ?_) | ((with_reducible refine Up.set ?_ ?_ _); rotate_left; focus (first | omega | (simp; done) | (simp; omega))) | (with_reducible refine Up.drewN ?_ _) | (with_reducible refine Up.call ?_ (by with_reducible assumption)))))) Hp.out Hx.out).mono ?_); rintro e w1 ⟨y1, hy1, rfl, hb1⟩ <;> (rw [Hov.out] at hy1; subst hy1)) <;> (have hle := Up.le hb1; (try simp only [World.size_alloc, World.size_setCell, World.size_drew, World.heap_drewN] at hle); (try (apply bk hb1 (w.heap.size); (focus (go_simp; rfl)); (focus (go_simp; rfl)); (focus (intro o; go_simp)); (try clear c_0_0 c_0_1 f_0); intro c_0_0 c_0_1 f_0 _; (try (apply bk hb1 (w.heap.size + 1); (focus (go_simp; rfl)); (focus (go_simp; rfl)); (focus (intro o; go_simp)); (try clear c_1_0 c_1_1 f_1); intro c_1_0 c_1_1 f_1 _)))); clear hle; (try (apply old_keep (w0 := w) (w := w1); (focus ((repeat (first | (with_reducible exact Up.refl _) | (with_reducible assumption) | (with_reducible refine Up.alloc ?_ _) | (with_reducible refine Up.drew ?_) | ((with_reducible refine Up.set ?_ ?_ _); rotate_left; focus (first | omega | (simp; done) | (simp; omega))) | (with_reducible refine Up.drewN ?_ _) | (with_reducible refine Up.call ?_ (by with_reducible assumption)))))); intro y z; (try clear hUp); (try clear hOld); have hUp := y; have hOld := z; clear y z))))
        | ((go_at_call 43; (with_reducible refine (rzero_any _ _ _).mono ?_); rintro e w2 ⟨y2, hy2, rfl, hb2⟩ <;> (rw [Hz.out] at hy2; subst hy2)) <;> (have hle := Up.le hb2; (try simp only [World.size_alloc, World.size_setCell, World.size_drew, World.heap_drewN] at hle); (try (apply bk hb2 (w.heap.size); (focus (go_simp; rfl)); (focus (go_simp; rfl)); (focus (intro o; go_simp)); (try clear c_0_0 c_0_1 f_0); intro c_0_0 c_0_1 f_0 _; (try (apply bk hb2 (w.heap.size + 1); (focus (go_simp; rfl)); (focus (go_simp; rfl)); (focus (intro o; go_simp)); (try clear c_1_0 c_1_1 f_1); intro c_1_0 c_1_1 f_1 _)))); (try (apply bk hb2 (w1.heap.size); (focus (go_simp; rfl)); (focus (go_simp; rfl)); (focus (intro o; go_simp)); (try clear c1_0_0 c1_0_1 f1_0); intro c1_0_0 c1_0_1 f1_0 _; (try (apply bk hb2 (w1.heap.size + 1); (focus (go_simp; rfl)); (focus (go_simp; rfl)); (focus (intro o; go_simp)); (try clear c1_1_0 c1_1_1 f1_1); intro c1_1_0 c1_1_1 f1_1 _)))); clear hle; (try (apply old_keep (w0 := w) (w := w2); (focus ((repeat (first | (with_reducible exact Up.refl _) | (with_reducible assumption) | (with_reducible refine Up.alloc ?_ _) | (with_reducible refine Up.drew ?_) | ((with_reducible refine Up.set ?_ ?_ _); rotate_left; focus (first | omega | (simp; done) | (simp; omega))) | (with_reducible refine Up.drewN ?_ _) | (with_reducible refine Up.call ?_ (by with_reducible assumption)))))); intro y z; (try clear hUp); (try clear hOld); have hUp := y; have hOld := z; clear y z)))))
      go_ret2
      have hU : Up w w2 := by (repeat (first | (with_reducible exact Up.refl _) | (with_reducible assumption) | (with_reducible refine Up.alloc ?_ _) | (with_reducible refine Up.drew ?_) | ((with_reducible refine Up.set ?_ ?_ _); rotate_left; focus (first | omega | (simp; done) | (simp; omega))) | (with_reducible refine Up.drewN ?_ _) | (with_reducible refine Up.call ?_ (by with_reducible assumption))))
      exact ⟨grown_any hU _, _, _, rfl, Hown.out.up hU, .inl rfl⟩
    | true =>
      have Hz := hid (show zeroF ⟨s.lo, s.hi⟩ = true from hz)
      have hle := hleaf s hov hz
      have dle : decide (hi - lo ≤ least) = true := decide_eq_true hle
      by_cases hfull : out.length = 32
      · rw [findG_full hov hz hle hfull]
        have dfu : decide ((32 : Int) ≤ (out.length : Int)) = true := decide_eq_true (by omega)
        have Hov := hid hov; clear hov hz hle hfull
        go_enter Tryz.func66, Tryz.ntmps66
        go_wp2_with (first
          | ((go_at_call 64; (with_reducible refine (rrange_any _ _ _ _ _ _ H0.out H5.out (Hr.out.up (by (repeat (first | (with_reducible exact Up.refl _) | (with_reducible assumption) | (with_reducible refine Up.alloc ?_ _) | (with_reducible refine Up.drew ?_) | ((with_reducible refine Up.set ?_ ?_ _); rotate_left; focus (first | omega | (simp; done) | (simp; omega))) | (with_reducible refine Up.drewN ?_ _) | (with_reducible refine Up.call ?_ (by with_reducible assumption)))))) Hp.out Hx.out).mono ?_); rintro e w1 ⟨y1, hy1, rfl, hb1⟩ <;> (rw [Hov.out] at hy1; subst hy1)) <;> (have hle := Up.le hb1; (try simp only [World.size_alloc, World.size_setCell, World.size_drew, World.heap_drewN] at hle); (try (apply bk hb1 (w.heap.size); (focus (go_simp; rfl)); (focus (go_simp; rfl)); (focus (intro o; go_simp)); (try clear c_0_0 c_0_1 f_0); intro c_0_0 c_0_1 f_0 _; (try (apply bk hb1 (w.heap.size + 1); (focus (go_simp; rfl)); (focus (go_simp; rfl)); (focus (intro o; go_simp)); (try clear c_1_0 c_1_1 f_1); intro c_1_0 c_1_1 f_1 _)))); clear hle; (try (apply old_keep (w0 := w) (w := w1); (focus ((repeat (first | (with_reducible exact Up.refl _) | (with_reducible assumption) | (with_reducible refine Up.alloc ?_ _) | (with_reducible refine Up.drew ?_) | ((with_reducible refine Up.set ?_ ?_ _); rotate_left; focus (first | omega | (simp; done) | (simp; omega))) | (with_reducible refine Up.drewN ?_ _) | (with_reducible refine Up.call ?_ (by with_reducible assumption)))))); intro y z; (try clear hUp); (try clear hOld); have hUp := y; have hOld := z; clear y z))))
          | ((go_at_call 43; (with_reducible refine (rzero_any _ _ _).mono ?_); rintro e w2 ⟨y2, hy2, rfl, hb2⟩ <;> (rw [Hz.out] at hy2; subst hy2)) <;> (have hle := Up.le hb2; (try simp only [World.size_alloc, World.size_setCell, World.size_drew, World.heap_drewN] at hle); (try (apply bk hb2 (w.heap.size); (focus (go_simp; rfl)); (focus (go_simp; rfl)); (focus (intro o; go_simp)); (try clear c_0_0 c_0_1 f_0); intro c_0_0 c_0_1 f_0 _; (try (apply bk hb2 (w.heap.size + 1); (focus (go_simp; rfl)); (focus (go_simp; rfl)); (focus (intro o; go_simp)); (try clear c_1_0 c_1_1 f_1); intro c_1_0 c_1_1 f_1 _)))); (try (apply bk hb2 (w1.heap.size); (focus (go_simp; rfl)); (focus (go_simp; rfl)); (focus (intro o; go_simp)); (try clear c1_0_0 c1_0_1 f1_0); intro c1_0_0 c1_0_1 f1_0 _; (try (apply bk hb2 (w1.heap.size + 1); (focus (go_simp; rfl)); (focus (go_simp; rfl)); (focus (intro o; go_simp)); (try clear c1_1_0 c1_1_1 f1_1); intro c1_1_0 c1_1_1 f1_1 _)))); clear hle; (try (apply old_keep (w0 := w) (w := w2); (focus ((repeat (first | (with_reducible exact Up.refl _) | (with_reducible assumption) | (with_reducible refine Up.alloc ?_ _) | (with_reducible refine Up.drew ?_) | ((with_reducible refine Up.set ?_ ?_ _); rotate_left; focus (first | omega | (simp; done) | (simp; omega))) | (with_reducible refine Up.drewN ?_ _) | (with_reducible refine Up.call ?_ (by with_reducible assumption)))))); intro y z; (try clear hUp); (try clear hOld); have hUp := y; have hOld := z; clear y z)))))
        go_ret2
        exact ⟨grown_any (by (repeat (first | (with_reducible exact Up.refl _) | (with_reducible assumption) | (with_reducible refine Up.alloc ?_ _) | (with_reducible refine Up.drew ?_) | ((with_reducible refine Up.set ?_ ?_ _); rotate_left; focus (first | omega | (simp; done) | (simp; omega))) | (with_reducible refine Up.drewN ?_ _) | (with_reducible refine Up.call ?_ (by with_reducible assumption))))) _, rfl⟩
      · rw [findG_leaf hov hz hle hfull]
        have dfu : decide ((32 : Int) ≤ (out.length : Int)) = false := decide_eq_false (by have := Ho.out; omega)
        have Hov := hid hov; clear hov hz hle hfull
        go_enter Tryz.func66, Tryz.ntmps66
        go_wp2_with (first
          | ((go_at_call 64; (with_reducible refine (rrange_any _ _ _ _ _ _ H0.out H5.out (Hr.out.up (by (repeat (first | (with_reducible exact Up.refl _) | (with_reducible assumption) | (with_reducible refine Up.alloc ?_ _) | (with_reducible refine Up.drew ?_) | ((with_reducible refine Up.set ?_ ?_ _); rotate_left; focus (first | omega | (simp; done) | (simp; omega))) | (with_reducible refine Up.drewN ?_ _) | (with_reducible refine Up.call ?_ (by with_reducible assumption)))))) Hp.out Hx.out).mono ?_); rintro e w1 ⟨y1, hy1, rfl, hb1⟩ <;> (rw [Hov.out] at hy1; subst hy1)) <;> (have hle := Up.le hb1; (try simp only [World.size_alloc, World.size_setCell, World.size_drew, World.heap_drewN] at hle); (try (apply bk hb1 (w.heap.size); (focus (go_simp; rfl)); (focus (go_simp; rfl)); (focus (intro o; go_simp)); (try clear c_0_0 c_0_1 f_0); intro c_0_0 c_0_1 f_0 _; (try (apply bk hb1 (w.heap.size + 1); (focus (go_simp; rfl)); (focus (go_simp; rfl)); (focus (intro o; go_simp)); (try clear c_1_0 c_1_1 f_1); intro c_1_0 c_1_1 f_1 _)))); clear hle; (try (apply old_keep (w0 := w) (w := w1); (focus ((repeat (first | (with_reducible exact Up.refl _) | (with_reducible assumption) | (with_reducible refine Up.alloc ?_ _) | (with_reducible refine Up.drew ?_) | ((with_reducible refine Up.set ?_ ?_ _); rotate_left; focus (first | omega | (simp; done) | (simp; omega))) | (with_reducible refine Up.drewN ?_ _) | (with_reducible refine Up.call ?_ (by with_reducible assumption)))))); intro y z; (try clear hUp); (try clear hOld); have hUp := y; have hOld := z; clear y z))))
          | ((go_at_call 43; (with_reducible refine (rzero_any _ _ _).mono ?_); rintro e w2 ⟨y2, hy2, rfl, hb2⟩ <;> (rw [Hz.out] at hy2; subst hy2)) <;> (have hle := Up.le hb2; (try simp only [World.size_alloc, World.size_setCell, World.size_drew, World.heap_drewN] at hle); (try (apply bk hb2 (w.heap.size); (focus (go_simp; rfl)); (focus (go_simp; rfl)); (focus (intro o; go_simp)); (try clear c_0_0 c_0_1 f_0); intro c_0_0 c_0_1 f_0 _; (try (apply bk hb2 (w.heap.size + 1); (focus (go_simp; rfl)); (focus (go_simp; rfl)); (focus (intro o; go_simp)); (try clear c_1_0 c_1_1 f_1); intro c_1_0 c_1_1 f_1 _)))); (try (apply bk hb2 (w1.heap.size); (focus (go_simp; rfl)); (focus (go_simp; rfl)); (focus (intro o; go_simp)); (try clear c1_0_0 c1_0_1 f1_0); intro c1_0_0 c1_0_1 f1_0 _; (try (apply bk hb2 (w1.heap.size + 1); (focus (go_simp; rfl)); (focus (go_simp; rfl)); (focus (intro o; go_simp)); (try clear c1_1_0 c1_1_1 f1_1); intro c1_1_0 c1_1_1 f1_1 _)))); clear hle; (try (apply old_keep (w0 := w) (w := w2); (focus ((repeat (first | (with_reducible exact Up.refl _) | (with_reducible assumption) | (with_reducible refine Up.alloc ?_ _) | (with_reducible refine Up.drew ?_) | ((with_reducible refine Up.set ?_ ?_ _); rotate_left; focus (first | omega | (simp; done) | (simp; omega))) | (with_reducible refine Up.drewN ?_ _) | (with_reducible refine Up.call ?_ (by with_reducible assumption)))))); intro y z; (try clear hUp); (try clear hOld); have hUp := y; have hOld := z; clear y z))))
          | (at_builtin; go_loud (refine wpList_append_own_at _ rfl (.tmp 38) (.tmp 40) _ rfl base 24 i0 (.agg #[.int .i64 0, .int .i64 0]) 2 16 Tryz.underlying49 hi0 hz0 hz1 hz2 rfl (by decide) _ _ _ rfl (Hown.out.up (by clear hOld; (repeat (first | (with_reducible exact Up.refl _) | (with_reducible assumption) | (with_reducible refine Up.alloc ?_ _) | (with_reducible refine Up.drew ?_) | ((with_reducible refine Up.set ?_ ?_ _); rotate_left; focus (first | omega | (simp; done) | (simp; omega))) | (with_reducible refine Up.drewN ?_ _) | (with_reducible refine Up.call ?_ (by with_reducible assumption)))))) ⟨w2.heap.size, 0, none⟩ 1 1 [.int .i64 lo, .int .i64 hi] rfl rfl (cell_two_at _ _ _ _ (by simp)) (by simp [Value.oneCell']) (by have := Ho.out; unfold maxLen; omega) (by have := Ho.out; omega) (by have := Hbase.out; have := Up.le hUp; simp; omega) ?_); intro v8 w5 own8 g8 _ at8))
        have hO := OwnS.snoc own8
        obtain ⟨A8, c8, hv8⟩ := hO.shape
        subst hv8
        have HG := hid (World.grownBy.trans (grown_any (show Up w (w2.alloc (Obj.cells #[Value.int .i64 lo, Value.int .i64 hi] 24)) by (repeat (first | (with_reducible exact Up.refl _) | (with_reducible assumption) | (with_reducible refine Up.alloc ?_ _) | (with_reducible refine Up.drew ?_) | ((with_reducible refine Up.set ?_ ?_ _); rotate_left; focus (first | omega | (simp; done) | (simp; omega))) | (with_reducible refine Up.drewN ?_ _) | (with_reducible refine Up.call ?_ (by with_reducible assumption))))) _) g8)
        have hle2 := Up.le hUp
        have HO := hid hO; have Hat := hid at8
        clear hO own8 g8 at8
        go_ret2
        refine ⟨HG.out, A8, c8, by simp, ?_, ?_⟩
        · simpa using HO.out
        rcases Hat.out with e | e
        · exact .inl e
        · exact .inr ⟨_, e, by simp; omega⟩
set_option maxRecDepth 100000 in
set_option maxHeartbeats 8000000 in
theorem rfind_any (base : Nat) (A : Option Addr) (p : List Int) (c : Nat) (least : Int) (h0 : 0 < p.length) (h5 : p.length ≤ 5) (hcap : p.length ≤ c) (hp : ∀ n ∈ p, M n) (hA : ∀ b o, A = some ⟨b, o, none⟩ → b < base) (hl1 : 1 ≤ least) (hl2 : least ≤ 1000000000) :
    ∀ (f : Nat) (lo hi : Int) (Av : Option Addr) (cv : Nat) (out : List Sp) (w : World), (hi - lo).toNat ≤ f → Rt ⟨lo, hi⟩ → out.length ≤ 32 → OwnS w base (.slice Av out.length cv) out → base ≤ w.heap.size → RdI w A p →
    Calls Tryz.prog 66 #[.slice A p.length c, .agg #[.int .i64 lo, .int .i64 hi], .int .i64 least, .slice Av out.length cv] w (FdPost base (.slice Av out.length cv) w (findG p least f ⟨lo, hi⟩ out)) := by
  intro f
  induction f with
  | zero =>
    intro lo hi Av cv out w hf hx ho hown hbase hr
    exact rfind_leaf base A p c least h0 h5 hcap hp 0 lo hi Av cv out w hx ho hown hbase hr (fun s _ _ => by omega)
  | succ f ih =>
    intro lo hi Av cv out w hf hx ho hown hbase hr
    by_cases hbig : ∃ s, overF p ⟨lo, hi⟩ = .ok s ∧ zeroF s = true ∧ ¬ (hi - lo ≤ least)
    · obtain ⟨s, hov, hz, hle⟩ := hbig
      have h2 := findG_two (f := f) (out := out) hov hz hle
      obtain ⟨hm1, hm2, hm3, hm4, hm5, hm6⟩ := half_parts hx hl1 hle hf
      dsimp only at h2
      rw [h2]
      have Hz := hid (show zeroF ⟨s.lo, s.hi⟩ = true from hz)
      have dle : decide (hi - lo ≤ least) = false := decide_eq_false hle
      have Hih := hid ih
      have Hr := hid hr; have Hown := hid hown; have Ho := hid ho; have Hp := hid hp; have Hx := hid hx; have H0 := hid h0; have H5 := hid h5; have Hcap := hid hcap; have HA := hid hA
      have Hbase := hid hbase; have Hov := hid hov; have HL1 := hid hl1
      have Hfr := hid (show ∀ j, (Value.slice Av out.length cv).ownBlock = some j → base ≤ j ∧ j < w.heap.size from OwnS.lt hown)
      obtain ⟨⟨x1, x2⟩, ⟨x3, x4⟩, x5⟩ := hx
      dsimp only at x1 x2 x3 x4 x5
      have hw1 : 0 ≤ hi - lo := by omega
      have hw2 : hi - lo ≤ 2000000000 := by omega
      have M1 := hid (show M lo from ⟨x1, x2⟩); have M2 := hid (show M hi from ⟨x3, x4⟩)
      have Hm3 := hid hm3; have Hm4 := hid hm4; have Hm5 := hid hm5; have Hm6 := hid hm6; have Hlo := hid hm1
      have Hmm := hid (show ∃ m, halfF ⟨lo, hi⟩ = m from ⟨_, rfl⟩)
      clear h2 ih hr hown ho hp h0 h5 hcap hf hA hl1 hl2 hbase x1 x2 x3 x4 x5 hov hz hle hm1 hm2 hm3 hm4 hm5 hm6
      obtain ⟨mid, hmid⟩ := Hmm.out
      rw [hmid] at Hm3 Hm4 Hm5 Hm6 Hlo ⊢
      have Hmid := hid hmid
      clear hmid Hmm
      have Hne := hid (show (Value.slice Av out.length cv).ownBlock ≠ some w.heap.size from fun e => by have := (Hfr.out _ e).2; omega)
      cases h1 : findG p least f ⟨lo, mid⟩ out with
      | error e1 =>
        have qe := nn45 (rfind_num HL1.out f _ _ _ Hm5.out h1)
        have H1 := hid h1; clear h1
        go_enter Tryz.func66, Tryz.ntmps66
        go_wp2_with (first
          | ((go_at_call 64; (with_reducible refine (rrange_any _ _ _ _ _ _ H0.out H5.out (Hr.out.up (by (repeat (first | (with_reducible exact Up.refl _) | (with_reducible assumption) | (with_reducible refine Up.alloc ?_ _) | (with_reducible refine Up.drew ?_) | ((with_reducible refine Up.set ?_ ?_ _); rotate_left; focus (first | omega | (simp; done) | (simp; omega))) | (with_reducible refine Up.drewN ?_ _) | (with_reducible refine Up.call ?_ (by with_reducible assumption)))))) Hp.out Hx.out).mono ?_); rintro e w1 ⟨y1, hy1, rfl, hb1⟩ <;> (rw [Hov.out] at hy1; subst hy1)) <;> (have hle := Up.le hb1; (try simp only [World.size_alloc, World.size_setCell, World.size_drew, World.heap_drewN] at hle); (try (apply bk hb1 (w.heap.size); (focus (go_simp; rfl)); (focus (go_simp; rfl)); (focus (intro o; go_simp)); (try clear c_0_0 c_0_1 f_0); intro c_0_0 c_0_1 f_0 _; (try (apply bk hb1 (w.heap.size + 1); (focus (go_simp; rfl)); (focus (go_simp; rfl)); (focus (intro o; go_simp)); (try clear c_1_0 c_1_1 f_1); intro c_1_0 c_1_1 f_1 _)))); clear hle; (try (apply old_keep (w0 := w) (w := w1); (focus ((repeat (first | (with_reducible exact Up.refl _) | (with_reducible assumption) | (with_reducible refine Up.alloc ?_ _) | (with_reducible refine Up.drew ?_) | ((with_reducible refine Up.set ?_ ?_ _); rotate_left; focus (first | omega | (simp; done) | (simp; omega))) | (with_reducible refine Up.drewN ?_ _) | (with_reducible refine Up.call ?_ (by with_reducible assumption)))))); intro y z; (try clear hUp); (try clear hOld); have hUp := y; have hOld := z; clear y z))))
          | ((go_at_call 43; (with_reducible refine (rzero_any _ _ _).mono ?_); rintro e w2 ⟨y2, hy2, rfl, hb2⟩ <;> (rw [Hz.out] at hy2; subst hy2)) <;> (have hle := Up.le hb2; (try simp only [World.size_alloc, World.size_setCell, World.size_drew, World.heap_drewN] at hle); (try (apply bk hb2 (w.heap.size); (focus (go_simp; rfl)); (focus (go_simp; rfl)); (focus (intro o; go_simp)); (try clear c_0_0 c_0_1 f_0); intro c_0_0 c_0_1 f_0 _; (try (apply bk hb2 (w.heap.size + 1); (focus (go_simp; rfl)); (focus (go_simp; rfl)); (focus (intro o; go_simp)); (try clear c_1_0 c_1_1 f_1); intro c_1_0 c_1_1 f_1 _)))); (try (apply bk hb2 (w1.heap.size); (focus (go_simp; rfl)); (focus (go_simp; rfl)); (focus (intro o; go_simp)); (try clear c1_0_0 c1_0_1 f1_0); intro c1_0_0 c1_0_1 f1_0 _; (try (apply bk hb2 (w1.heap.size + 1); (focus (go_simp; rfl)); (focus (go_simp; rfl)); (focus (intro o; go_simp)); (try clear c1_1_0 c1_1_1 f1_1); intro c1_1_0 c1_1_1 f1_1 _)))); clear hle; (try (apply old_keep (w0 := w) (w := w2); (focus ((repeat (first | (with_reducible exact Up.refl _) | (with_reducible assumption) | (with_reducible refine Up.alloc ?_ _) | (with_reducible refine Up.drew ?_) | ((with_reducible refine Up.set ?_ ?_ _); rotate_left; focus (first | omega | (simp; done) | (simp; omega))) | (with_reducible refine Up.drewN ?_ _) | (with_reducible refine Up.call ?_ (by with_reducible assumption)))))); intro y z; (try clear hUp); (try clear hOld); have hUp := y; have hOld := z; clear y z))))
          | ((go_at_call 100; (with_reducible refine (rmiddle_any _ _ _ M1.out M2.out).mono ?_); rintro e w3 ⟨y3, hy3, rfl, hb3⟩ <;> (rw [Hmid.out] at hy3; subst hy3)) <;> (have hle := Up.le hb3; (try simp only [World.size_alloc, World.size_setCell, World.size_drew, World.heap_drewN] at hle); (try (apply bk hb3 (w.heap.size); (focus (go_simp; rfl)); (focus (go_simp; rfl)); (focus (intro o; go_simp)); (try clear c_0_0 c_0_1 f_0); intro c_0_0 c_0_1 f_0 _; (try (apply bk hb3 (w.heap.size + 1); (focus (go_simp; rfl)); (focus (go_simp; rfl)); (focus (intro o; go_simp)); (try clear c_1_0 c_1_1 f_1); intro c_1_0 c_1_1 f_1 _)))); (try (apply bk hb3 (w1.heap.size); (focus (go_simp; rfl)); (focus (go_simp; rfl)); (focus (intro o; go_simp)); (try clear c1_0_0 c1_0_1 f1_0); intro c1_0_0 c1_0_1 f1_0 _; (try (apply bk hb3 (w1.heap.size + 1); (focus (go_simp; rfl)); (focus (go_simp; rfl)); (focus (intro o; go_simp)); (try clear c1_1_0 c1_1_1 f1_1); intro c1_1_0 c1_1_1 f1_1 _)))); (try (apply bk hb3 (w2.heap.size); (focus (go_simp; rfl)); (focus (go_simp; rfl)); (focus (intro o; go_simp)); (try clear c2_0_0 c2_0_1 f2_0); intro c2_0_0 c2_0_1 f2_0 _; (try (apply bk hb3 (w2.heap.size + 1); (focus (go_simp; rfl)); (focus (go_simp; rfl)); (focus (intro o; go_simp)); (try clear c2_1_0 c2_1_1 f2_1); intro c2_1_0 c2_1_1 f2_1 _)))); clear hle; (try (apply old_keep (w0 := w) (w := w3); (focus ((repeat (first | (with_reducible exact Up.refl _) | (with_reducible assumption) | (with_reducible refine Up.alloc ?_ _) | (with_reducible refine Up.drew ?_) | ((with_reducible refine Up.set ?_ ?_ _); rotate_left; focus (first | omega | (simp; done) | (simp; omega))) | (with_reducible refine Up.drewN ?_ _) | (with_reducible refine Up.call ?_ (by with_reducible assumption)))))); intro y z; (try clear hUp); (try clear hOld); have hUp := y; have hOld := z; clear y z))))
          | ((go_at_call 66; refine (Hih.out lo _ _ _ out _ Hm5.out Hm3.out Ho.out (Hown.out.up (by (repeat (first | (with_reducible exact Up.refl _) | (with_reducible assumption) | (with_reducible refine Up.alloc ?_ _) | (with_reducible refine Up.drew ?_) | ((with_reducible refine Up.set ?_ ?_ _); rotate_left; focus (first | omega | (simp; done) | (simp; omega))) | (with_reducible refine Up.drewN ?_ _) | (with_reducible refine Up.call ?_ (by with_reducible assumption)))))) (by have := Hbase.out; have := Up.le hUp; omega) (Hr.out.up (by (repeat (first | (with_reducible exact Up.refl _) | (with_reducible assumption) | (with_reducible refine Up.alloc ?_ _) | (with_reducible refine Up.drew ?_) | ((with_reducible refine Up.set ?_ ?_ _); rotate_left; focus (first | omega | (simp; done) | (simp; omega))) | (with_reducible refine Up.drewN ?_ _) | (with_reducible refine Up.call ?_ (by with_reducible assumption))))))).mono ?_; rintro e w4 hP); rw [H1.out] at hP; obtain ⟨hg4, rfl⟩ := FdPost.err hP; clear hP))
        go_ret2
        exact ⟨World.grownBy.trans (grown_any hUp _) hg4, rfl⟩
      | ok o1 =>
        have Ho1 := hid (show o1.length ≤ 32 from (find_law H0.out H5.out f _ _ _ Hlo.out h1).choose_spec.2.2.2.2 Ho.out)
        have H1 := hid h1; clear h1
        dsimp only
        cases h2 : findG p least f ⟨mid, hi⟩ o1 with
        | error e1 =>
          have H2 := hid h2; clear h2
          go_enter Tryz.func66, Tryz.ntmps66
          go_wp2_with (first
            | ((go_at_call 64; (with_reducible refine (rrange_any _ _ _ _ _ _ H0.out H5.out (Hr.out.up (by (repeat (first | (with_reducible exact Up.refl _) | (with_reducible assumption) | (with_reducible refine Up.alloc ?_ _) | (with_reducible refine Up.drew ?_) | ((with_reducible refine Up.set ?_ ?_ _); rotate_left; focus (first | omega | (simp; done) | (simp; omega))) | (with_reducible refine Up.drewN ?_ _) | (with_reducible refine Up.call ?_ (by with_reducible assumption)))))) Hp.out Hx.out).mono ?_); rintro e w1 ⟨y1, hy1, rfl, hb1⟩ <;> (rw [Hov.out] at hy1; subst hy1)) <;> (have hle := Up.le hb1; (try simp only [World.size_alloc, World.size_setCell, World.size_drew, World.heap_drewN] at hle); (try (apply bk hb1 (w.heap.size); (focus (go_simp; rfl)); (focus (go_simp; rfl)); (focus (intro o; go_simp)); (try clear c_0_0 c_0_1 f_0); intro c_0_0 c_0_1 f_0 _; (try (apply bk hb1 (w.heap.size + 1); (focus (go_simp; rfl)); (focus (go_simp; rfl)); (focus (intro o; go_simp)); (try clear c_1_0 c_1_1 f_1); intro c_1_0 c_1_1 f_1 _)))); clear hle; (try (apply old_keep (w0 := w) (w := w1); (focus ((repeat (first | (with_reducible exact Up.refl _) | (with_reducible assumption) | (with_reducible refine Up.alloc ?_ _) | (with_reducible refine Up.drew ?_) | ((with_reducible refine Up.set ?_ ?_ _); rotate_left; focus (first | omega | (simp; done) | (simp; omega))) | (with_reducible refine Up.drewN ?_ _) | (with_reducible refine Up.call ?_ (by with_reducible assumption)))))); intro y z; (try clear hUp); (try clear hOld); have hUp := y; have hOld := z; clear y z))))
            | ((go_at_call 43; (with_reducible refine (rzero_any _ _ _).mono ?_); rintro e w2 ⟨y2, hy2, rfl, hb2⟩ <;> (rw [Hz.out] at hy2; subst hy2)) <;> (have hle := Up.le hb2; (try simp only [World.size_alloc, World.size_setCell, World.size_drew, World.heap_drewN] at hle); (try (apply bk hb2 (w.heap.size); (focus (go_simp; rfl)); (focus (go_simp; rfl)); (focus (intro o; go_simp)); (try clear c_0_0 c_0_1 f_0); intro c_0_0 c_0_1 f_0 _; (try (apply bk hb2 (w.heap.size + 1); (focus (go_simp; rfl)); (focus (go_simp; rfl)); (focus (intro o; go_simp)); (try clear c_1_0 c_1_1 f_1); intro c_1_0 c_1_1 f_1 _)))); (try (apply bk hb2 (w1.heap.size); (focus (go_simp; rfl)); (focus (go_simp; rfl)); (focus (intro o; go_simp)); (try clear c1_0_0 c1_0_1 f1_0); intro c1_0_0 c1_0_1 f1_0 _; (try (apply bk hb2 (w1.heap.size + 1); (focus (go_simp; rfl)); (focus (go_simp; rfl)); (focus (intro o; go_simp)); (try clear c1_1_0 c1_1_1 f1_1); intro c1_1_0 c1_1_1 f1_1 _)))); clear hle; (try (apply old_keep (w0 := w) (w := w2); (focus ((repeat (first | (with_reducible exact Up.refl _) | (with_reducible assumption) | (with_reducible refine Up.alloc ?_ _) | (with_reducible refine Up.drew ?_) | ((with_reducible refine Up.set ?_ ?_ _); rotate_left; focus (first | omega | (simp; done) | (simp; omega))) | (with_reducible refine Up.drewN ?_ _) | (with_reducible refine Up.call ?_ (by with_reducible assumption)))))); intro y z; (try clear hUp); (try clear hOld); have hUp := y; have hOld := z; clear y z))))
            | ((go_at_call 100; (with_reducible refine (rmiddle_any _ _ _ M1.out M2.out).mono ?_); rintro e w3 ⟨y3, hy3, rfl, hb3⟩ <;> (rw [Hmid.out] at hy3; subst hy3)) <;> (have hle := Up.le hb3; (try simp only [World.size_alloc, World.size_setCell, World.size_drew, World.heap_drewN] at hle); (try (apply bk hb3 (w.heap.size); (focus (go_simp; rfl)); (focus (go_simp; rfl)); (focus (intro o; go_simp)); (try clear c_0_0 c_0_1 f_0); intro c_0_0 c_0_1 f_0 _; (try (apply bk hb3 (w.heap.size + 1); (focus (go_simp; rfl)); (focus (go_simp; rfl)); (focus (intro o; go_simp)); (try clear c_1_0 c_1_1 f_1); intro c_1_0 c_1_1 f_1 _)))); (try (apply bk hb3 (w1.heap.size); (focus (go_simp; rfl)); (focus (go_simp; rfl)); (focus (intro o; go_simp)); (try clear c1_0_0 c1_0_1 f1_0); intro c1_0_0 c1_0_1 f1_0 _; (try (apply bk hb3 (w1.heap.size + 1); (focus (go_simp; rfl)); (focus (go_simp; rfl)); (focus (intro o; go_simp)); (try clear c1_1_0 c1_1_1 f1_1); intro c1_1_0 c1_1_1 f1_1 _)))); (try (apply bk hb3 (w2.heap.size); (focus (go_simp; rfl)); (focus (go_simp; rfl)); (focus (intro o; go_simp)); (try clear c2_0_0 c2_0_1 f2_0); intro c2_0_0 c2_0_1 f2_0 _; (try (apply bk hb3 (w2.heap.size + 1); (focus (go_simp; rfl)); (focus (go_simp; rfl)); (focus (intro o; go_simp)); (try clear c2_1_0 c2_1_1 f2_1); intro c2_1_0 c2_1_1 f2_1 _)))); clear hle; (try (apply old_keep (w0 := w) (w := w3); (focus ((repeat (first | (with_reducible exact Up.refl _) | (with_reducible assumption) | (with_reducible refine Up.alloc ?_ _) | (with_reducible refine Up.drew ?_) | ((with_reducible refine Up.set ?_ ?_ _); rotate_left; focus (first | omega | (simp; done) | (simp; omega))) | (with_reducible refine Up.drewN ?_ _) | (with_reducible refine Up.call ?_ (by with_reducible assumption)))))); intro y z; (try clear hUp); (try clear hOld); have hUp := y; have hOld := z; clear y z))))
            | (have _n := hg4; clear _n; (go_at_call 66; refine (Hih.out _ hi _ _ o1 _ Hm6.out Hm4.out Ho1.out Hown4.out Hb4.out Hr4.out).mono ?_; rintro e w5 hP); rw [H2.out] at hP; obtain ⟨hg5, rfl⟩ := FdPost.err hP; clear hP)
            | ((go_at_call 66; refine (Hih.out lo _ _ _ out _ Hm5.out Hm3.out Ho.out (Hown.out.up (by (repeat (first | (with_reducible exact Up.refl _) | (with_reducible assumption) | (with_reducible refine Up.alloc ?_ _) | (with_reducible refine Up.drew ?_) | ((with_reducible refine Up.set ?_ ?_ _); rotate_left; focus (first | omega | (simp; done) | (simp; omega))) | (with_reducible refine Up.drewN ?_ _) | (with_reducible refine Up.call ?_ (by with_reducible assumption)))))) (by have := Hbase.out; have := Up.le hUp; omega) (Hr.out.up (by (repeat (first | (with_reducible exact Up.refl _) | (with_reducible assumption) | (with_reducible refine Up.alloc ?_ _) | (with_reducible refine Up.drew ?_) | ((with_reducible refine Up.set ?_ ?_ _); rotate_left; focus (first | omega | (simp; done) | (simp; omega))) | (with_reducible refine Up.drewN ?_ _) | (with_reducible refine Up.call ?_ (by with_reducible assumption))))))).mono ?_; rintro e w4 hP); rw [H1.out] at hP; obtain ⟨hg4, A4, c4, rfl, hown4, hat4⟩ := FdPost.ok hP; clear hP; have c40 := (Cf.keep (show Cf w3 w.heap.size 0 (.int .i64 lo) from ⟨by go_simp, by go_simp⟩) hg4 Hne.out).1; have c41 := (Cf.keep (show Cf w3 w.heap.size 1 (.int .i64 hi) from ⟨by go_simp, by go_simp⟩) hg4 Hne.out).1; have Hown4 := hid hown4; have Hat4 := hid hat4; have Hr4 := hid (keepsI.grown (Hr.out.up hUp) hg4 (fun b o e e2 => by have := HA.out b o e; have := (Hfr.out b e2).1; omega)); have Hb4 := hid (show base ≤ w4.heap.size by have := Hbase.out; have := Up.le hUp; have := hg4.size; omega); have HU3 := hid hUp; have g40 := (Cf.keep (show Cf w3 w.heap.size 0 (.int .i64 lo) from ⟨by go_simp, by go_simp⟩) hg4 Hne.out).2; have g41 := (Cf.keep (show Cf w3 w.heap.size 1 (.int .i64 hi) from ⟨by go_simp, by go_simp⟩) hg4 Hne.out).2; have l4 := World.block_lt_of_cell? _ _ c40; dsimp only at l4; clear hown4 hat4 hUp hOld))
          go_ret2
          refine ⟨grown_join (World.grownBy.trans (grown_any HU3.out _) hg4) hg5 ?_, rfl⟩
          rcases Hat4.out with e | ⟨g, e, hg⟩
          · exact .inl e
          · exact .inr ⟨g, e, Nat.le_trans HU3.out.le hg⟩
        | ok o2 =>
          have H2 := hid h2; clear h2
          go_enter Tryz.func66, Tryz.ntmps66
          go_wp2_with (first
            | ((go_at_call 64; (with_reducible refine (rrange_any _ _ _ _ _ _ H0.out H5.out (Hr.out.up (by (repeat (first | (with_reducible exact Up.refl _) | (with_reducible assumption) | (with_reducible refine Up.alloc ?_ _) | (with_reducible refine Up.drew ?_) | ((with_reducible refine Up.set ?_ ?_ _); rotate_left; focus (first | omega | (simp; done) | (simp; omega))) | (with_reducible refine Up.drewN ?_ _) | (with_reducible refine Up.call ?_ (by with_reducible assumption)))))) Hp.out Hx.out).mono ?_); rintro e w1 ⟨y1, hy1, rfl, hb1⟩ <;> (rw [Hov.out] at hy1; subst hy1)) <;> (have hle := Up.le hb1; (try simp only [World.size_alloc, World.size_setCell, World.size_drew, World.heap_drewN] at hle); (try (apply bk hb1 (w.heap.size); (focus (go_simp; rfl)); (focus (go_simp; rfl)); (focus (intro o; go_simp)); (try clear c_0_0 c_0_1 f_0); intro c_0_0 c_0_1 f_0 _; (try (apply bk hb1 (w.heap.size + 1); (focus (go_simp; rfl)); (focus (go_simp; rfl)); (focus (intro o; go_simp)); (try clear c_1_0 c_1_1 f_1); intro c_1_0 c_1_1 f_1 _)))); clear hle; (try (apply old_keep (w0 := w) (w := w1); (focus ((repeat (first | (with_reducible exact Up.refl _) | (with_reducible assumption) | (with_reducible refine Up.alloc ?_ _) | (with_reducible refine Up.drew ?_) | ((with_reducible refine Up.set ?_ ?_ _); rotate_left; focus (first | omega | (simp; done) | (simp; omega))) | (with_reducible refine Up.drewN ?_ _) | (with_reducible refine Up.call ?_ (by with_reducible assumption)))))); intro y z; (try clear hUp); (try clear hOld); have hUp := y; have hOld := z; clear y z))))
            | ((go_at_call 43; (with_reducible refine (rzero_any _ _ _).mono ?_); rintro e w2 ⟨y2, hy2, rfl, hb2⟩ <;> (rw [Hz.out] at hy2; subst hy2)) <;> (have hle := Up.le hb2; (try simp only [World.size_alloc, World.size_setCell, World.size_drew, World.heap_drewN] at hle); (try (apply bk hb2 (w.heap.size); (focus (go_simp; rfl)); (focus (go_simp; rfl)); (focus (intro o; go_simp)); (try clear c_0_0 c_0_1 f_0); intro c_0_0 c_0_1 f_0 _; (try (apply bk hb2 (w.heap.size + 1); (focus (go_simp; rfl)); (focus (go_simp; rfl)); (focus (intro o; go_simp)); (try clear c_1_0 c_1_1 f_1); intro c_1_0 c_1_1 f_1 _)))); (try (apply bk hb2 (w1.heap.size); (focus (go_simp; rfl)); (focus (go_simp; rfl)); (focus (intro o; go_simp)); (try clear c1_0_0 c1_0_1 f1_0); intro c1_0_0 c1_0_1 f1_0 _; (try (apply bk hb2 (w1.heap.size + 1); (focus (go_simp; rfl)); (focus (go_simp; rfl)); (focus (intro o; go_simp)); (try clear c1_1_0 c1_1_1 f1_1); intro c1_1_0 c1_1_1 f1_1 _)))); clear hle; (try (apply old_keep (w0 := w) (w := w2); (focus ((repeat (first | (with_reducible exact Up.refl _) | (with_reducible assumption) | (with_reducible refine Up.alloc ?_ _) | (with_reducible refine Up.drew ?_) | ((with_reducible refine Up.set ?_ ?_ _); rotate_left; focus (first | omega | (simp; done) | (simp; omega))) | (with_reducible refine Up.drewN ?_ _) | (with_reducible refine Up.call ?_ (by with_reducible assumption)))))); intro y z; (try clear hUp); (try clear hOld); have hUp := y; have hOld := z; clear y z))))
            | ((go_at_call 100; (with_reducible refine (rmiddle_any _ _ _ M1.out M2.out).mono ?_); rintro e w3 ⟨y3, hy3, rfl, hb3⟩ <;> (rw [Hmid.out] at hy3; subst hy3)) <;> (have hle := Up.le hb3; (try simp only [World.size_alloc, World.size_setCell, World.size_drew, World.heap_drewN] at hle); (try (apply bk hb3 (w.heap.size); (focus (go_simp; rfl)); (focus (go_simp; rfl)); (focus (intro o; go_simp)); (try clear c_0_0 c_0_1 f_0); intro c_0_0 c_0_1 f_0 _; (try (apply bk hb3 (w.heap.size + 1); (focus (go_simp; rfl)); (focus (go_simp; rfl)); (focus (intro o; go_simp)); (try clear c_1_0 c_1_1 f_1); intro c_1_0 c_1_1 f_1 _)))); (try (apply bk hb3 (w1.heap.size); (focus (go_simp; rfl)); (focus (go_simp; rfl)); (focus (intro o; go_simp)); (try clear c1_0_0 c1_0_1 f1_0); intro c1_0_0 c1_0_1 f1_0 _; (try (apply bk hb3 (w1.heap.size + 1); (focus (go_simp; rfl)); (focus (go_simp; rfl)); (focus (intro o; go_simp)); (try clear c1_1_0 c1_1_1 f1_1); intro c1_1_0 c1_1_1 f1_1 _)))); (try (apply bk hb3 (w2.heap.size); (focus (go_simp; rfl)); (focus (go_simp; rfl)); (focus (intro o; go_simp)); (try clear c2_0_0 c2_0_1 f2_0); intro c2_0_0 c2_0_1 f2_0 _; (try (apply bk hb3 (w2.heap.size + 1); (focus (go_simp; rfl)); (focus (go_simp; rfl)); (focus (intro o; go_simp)); (try clear c2_1_0 c2_1_1 f2_1); intro c2_1_0 c2_1_1 f2_1 _)))); clear hle; (try (apply old_keep (w0 := w) (w := w3); (focus ((repeat (first | (with_reducible exact Up.refl _) | (with_reducible assumption) | (with_reducible refine Up.alloc ?_ _) | (with_reducible refine Up.drew ?_) | ((with_reducible refine Up.set ?_ ?_ _); rotate_left; focus (first | omega | (simp; done) | (simp; omega))) | (with_reducible refine Up.drewN ?_ _) | (with_reducible refine Up.call ?_ (by with_reducible assumption)))))); intro y z; (try clear hUp); (try clear hOld); have hUp := y; have hOld := z; clear y z))))
            | (have _n := hg4; clear _n; (go_at_call 66; refine (Hih.out _ hi _ _ o1 _ Hm6.out Hm4.out Ho1.out Hown4.out Hb4.out Hr4.out).mono ?_; rintro e w5 hP); rw [H2.out] at hP; obtain ⟨hg5, A5, c5, rfl, hown5, hat5⟩ := FdPost.ok hP; clear hP)
            | ((go_at_call 66; refine (Hih.out lo _ _ _ out _ Hm5.out Hm3.out Ho.out (Hown.out.up (by (repeat (first | (with_reducible exact Up.refl _) | (with_reducible assumption) | (with_reducible refine Up.alloc ?_ _) | (with_reducible refine Up.drew ?_) | ((with_reducible refine Up.set ?_ ?_ _); rotate_left; focus (first | omega | (simp; done) | (simp; omega))) | (with_reducible refine Up.drewN ?_ _) | (with_reducible refine Up.call ?_ (by with_reducible assumption)))))) (by have := Hbase.out; have := Up.le hUp; omega) (Hr.out.up (by (repeat (first | (with_reducible exact Up.refl _) | (with_reducible assumption) | (with_reducible refine Up.alloc ?_ _) | (with_reducible refine Up.drew ?_) | ((with_reducible refine Up.set ?_ ?_ _); rotate_left; focus (first | omega | (simp; done) | (simp; omega))) | (with_reducible refine Up.drewN ?_ _) | (with_reducible refine Up.call ?_ (by with_reducible assumption))))))).mono ?_; rintro e w4 hP); rw [H1.out] at hP; obtain ⟨hg4, A4, c4, rfl, hown4, hat4⟩ := FdPost.ok hP; clear hP; have c40 := (Cf.keep (show Cf w3 w.heap.size 0 (.int .i64 lo) from ⟨by go_simp, by go_simp⟩) hg4 Hne.out).1; have c41 := (Cf.keep (show Cf w3 w.heap.size 1 (.int .i64 hi) from ⟨by go_simp, by go_simp⟩) hg4 Hne.out).1; have Hown4 := hid hown4; have Hat4 := hid hat4; have Hr4 := hid (keepsI.grown (Hr.out.up hUp) hg4 (fun b o e e2 => by have := HA.out b o e; have := (Hfr.out b e2).1; omega)); have Hb4 := hid (show base ≤ w4.heap.size by have := Hbase.out; have := Up.le hUp; have := hg4.size; omega); have HU3 := hid hUp; have g40 := (Cf.keep (show Cf w3 w.heap.size 0 (.int .i64 lo) from ⟨by go_simp, by go_simp⟩) hg4 Hne.out).2; have g41 := (Cf.keep (show Cf w3 w.heap.size 1 (.int .i64 hi) from ⟨by go_simp, by go_simp⟩) hg4 Hne.out).2; have l4 := World.block_lt_of_cell? _ _ c40; dsimp only at l4; clear hown4 hat4 hUp hOld))
          have Hown5 := hid hown5; have Hat5 := hid hat5; have hs4 := hg4.size
          clear hown5 hat5
          go_ret2
          refine ⟨grown_join (World.grownBy.trans (grown_any HU3.out _) hg4) hg5 ?_, A5, c5, rfl, Hown5.out, ?_⟩
          · rcases Hat4.out with e | ⟨g, e, hg⟩
            · exact .inl e
            · exact .inr ⟨g, e, Nat.le_trans HU3.out.le hg⟩
          · have hle3 := HU3.out.le
            rcases Hat5.out with e | ⟨g, e, hg⟩
            · rw [e]
              rcases Hat4.out with e | ⟨g, e, hg⟩
              · exact .inl e
              · exact .inr ⟨g, e, by omega⟩
            · exact .inr ⟨g, e, by omega⟩
    · exact rfind_leaf base A p c least h0 h5 hcap hp (f + 1) lo hi Av cv out w hx ho hown hbase hr (fun s h1 h2 => Classical.byContradiction fun h3 => hbig ⟨s, h1, h2, h3⟩)
/-- What Find comes to that begins with nothing. -/
theorem rfind0_any (A : Option Addr) (p : List Int) (c : Nat) (lo hi least : Int) (w : World) (h0 : 0 < p.length) (h5 : p.length ≤ 5) (hcap : p.length ≤ c) (hp : ∀ n ∈ p, M n) (hx : Rt ⟨lo, hi⟩) (hl1 : 1 ≤ least) (hl2 : least ≤ 1000000000) (hr : RdI w A p) :
    Calls Tryz.prog 66 #[.slice A p.length c, .agg #[.int .i64 lo, .int .i64 hi], .int .i64 least, .slice none 0 0] w (RetR slNn (findG p least (hi - lo).toNat ⟨lo, hi⟩ []) w) := by
  have hA : ∀ b o, A = some ⟨b, o, none⟩ → b < w.heap.size := fun b o e => by
    obtain ⟨b', o', e2, hb, -⟩ := hr (by intro h; simp [h] at h0)
    rw [e] at e2
    injection e2 with e2
    injection e2 with e2
    omega
  refine (rfind_any w.heap.size A p c least h0 h5 hcap hp hA hl1 hl2 _ lo hi none 0 [] w (Nat.le_refl _) hx (by simp) (OwnS.nil _ _) (Nat.le_refl _) hr).mono ?_
  intro e w' hP
  cases hf : findG p least (hi - lo).toNat ⟨lo, hi⟩ [] with
  | error n =>
    rw [hf] at hP
    obtain ⟨hg, rfl⟩ := FdPost.err hP
    exact RetR.mk (.error n) (up_of_grown hg) rfl (rel := slNn) rfl
  | ok o =>
    rw [hf] at hP
    obtain ⟨hg, A', c', rfl, hown, -⟩ := FdPost.ok hP
    obtain ⟨A2, c2, hv, h1, h2⟩ := hown.rd
    injection hv with e1 e2 e3
    subst e1; subst e3
    exact RetR.mk (.ok o) (up_of_grown hg) rfl (rel := slNn) ⟨_, _, rfl, h1, h2⟩
/-- A truth with the number of a fault. -/
def boR : Except Nat Bool → Value
  | .ok s => .tuple #[.bool s, .int .i64 0]
  | .error n => .tuple #[.bool false, .int .i64 n]
theorem boR_ok (s : Bool) : boR (.ok s) = .tuple #[.bool s, .int .i64 0] := rfl
theorem boR_error (n : Nat) : boR (.error n) = .tuple #[.bool false, .int .i64 n] := rfl
attribute [go_sem] boR_ok boR_error
end Go.Proofs.YtmjcnpolnknkkaaGreatDoor
