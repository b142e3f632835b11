/- Sessions: an answer. Sessions, the reference's cut, plain: piece by piece. Sessions, plain: the rows of a text, what a session answers, and how long it is. -/
import Derived.Test.YtmjcnpolnknkkaaGreatDoorPRunl
import Derived.Test.YtmjcnpolnknkkaaGreatDoorZ5
import Derived.Test.YtmjcnpolnknkkaaGreatDoorZ2
set_option linter.unusedVariables false
set_option linter.unusedSimpArgs false
namespace Go.Proofs.YtmjcnpolnknkkaaGreatDoor
open Go.RowKit

def nameF : Nat → List UInt8
  | 0 => [79, 75]
  | 1 => [69, 114, 114, 82, 97, 110, 103, 101]
  | 2 => [69, 114, 114, 83, 121, 110, 116, 97, 120]
  | 3 => [69, 114, 114, 83, 104, 97, 112, 101]
  | 4 => [69, 114, 114, 70, 117, 108, 108]
  | 5 => [69, 114, 114, 78, 111, 110, 101]
  | 6 => [69, 114, 114, 83, 116, 97, 116, 101]
  | 7 => [69, 114, 114, 67, 108, 97, 115, 104]
  | 8 => [69, 114, 114, 90, 101, 114, 111]
  | _ => [69, 114, 114, 110, 111]
theorem name_low (n : Nat) (h : n < 9) (w : World) : Calls Tryz.prog 92 #[.int .i64 (n : Int)] w fun e w' => e = .returned (strV (nameF n)) ∧ w' = w := by
  match n, h with
  | 0, _ | 1, _ | 2, _ | 3, _ | 4, _ | 5, _ | 6, _ | 7, _ | 8, _ =>
    go_enter Tryz.func92, Tryz.ntmps92
    go_wp2
    go_ret
    exact ⟨rfl, rfl⟩
theorem name_any (n : Nat) (w : World) : Calls Tryz.prog 92 #[.int .i64 (n : Int)] w fun e w' => e = .returned (strV (nameF n)) ∧ w' = w := by
  by_cases h : n < 9
  · exact name_low n h w
  · have HN := hid (show nameF n = [69, 114, 114, 110, 111] by
      match n, h with
      | 0, h | 1, h | 2, h | 3, h | 4, h | 5, h | 6, h | 7, h | 8, h => exact absurd (by omega) h
      | k + 9, _ => rfl)
    have e0 : ((n : Int) == 0) = false := beq_eq_false_iff_ne.2 (by omega)
    have e1 : ((n : Int) == 1) = false := beq_eq_false_iff_ne.2 (by omega)
    have e2 : ((n : Int) == 2) = false := beq_eq_false_iff_ne.2 (by omega)
    have e3 : ((n : Int) == 3) = false := beq_eq_false_iff_ne.2 (by omega)
    have e4 : ((n : Int) == 4) = false := beq_eq_false_iff_ne.2 (by omega)
    have e5 : ((n : Int) == 5) = false := beq_eq_false_iff_ne.2 (by omega)
    have e6 : ((n : Int) == 6) = false := beq_eq_false_iff_ne.2 (by omega)
    have e7 : ((n : Int) == 7) = false := beq_eq_false_iff_ne.2 (by omega)
    have e8 : ((n : Int) == 8) = false := beq_eq_false_iff_ne.2 (by omega)
    clear h
    go_enter Tryz.func92, Tryz.ntmps92
    go_wp2
    go_ret
    exact ⟨by rw [HN.out]; rfl, rfl⟩
theorem alloc_read {W : World} {a : Addr} {v : Value} {o : Obj} (h : W.cell? a = some v) : (W.alloc o).cell? a = some v := by
  rw [World.cell?_alloc_lt _ _ a (World.block_lt_of_cell? _ _ h)]; exact h
theorem set_read {W : World} {a : Addr} {v : Value} (u : Value) (h : W.cell? a = some v) : (W.setCell a u).cell? a = some u := World.cell?_setCell_same W _ _ h
def answerF (s : List UInt8) : List UInt8 := match lineF s with
  | .ok t => t
  | .error none => [98, 97, 100]
  | .error (some n) => nameF n
set_option maxRecDepth 100000 in
set_option maxHeartbeats 4000000 in
theorem answer_any (s : List UInt8) (w : World) (hs : s.length ≤ 4000) (hd : DoorR w) : Calls Tryz.prog 51 #[.string ⟨s.toArray⟩] w (RetX strV (answerF s) w) := by
  have HD := hid hd; have Hs := hid hs
  clear hd hs
  cases r : lineF s with
  | ok t =>
    have H := hid r
    have HF := hid (show answerF s = t by unfold answerF; rw [r])
    clear r
    go_enter Tryz.func51, Tryz.ntmps51
    go_wp2_with (first
                        | ((go_at_call 91; (with_reducible refine (line_any s _ Hs.out (HD.out.up (by (repeat (first | (with_reducible exact Up.refl _) | (with_reducible assumption) | (with_reducible refine Up.alloc ?_ _) | (with_reducible refine Up.drew ?_) | ((with_reducible refine Up.set ?_ ?_ _); rotate_left; focus (first | omega | (simp; done) | (simp; omega))) | (with_reducible refine Up.drewN ?_ _) | (with_reducible refine Up.call ?_ (by with_reducible assumption))))))).mono ?_); rintro e w1 ⟨x1, v1, hx1, rfl, hv1, hb1⟩ <;> (rw [H.out] at hx1; subst hx1; obtain rfl := hv1)) <;> (have hle := Up.le hb1; (try simp only [World.size_alloc, World.size_setCell, World.size_drew, World.heap_drewN] at hle); clear hle))
                        | (go_at_call 82; (with_reducible refine (as_nil _ _).mono ?_); rintro e w2 ⟨rfl, rfl⟩))
    go_ret
    exact RetX.mk t (by (repeat (first | (with_reducible exact Up.refl _) | (with_reducible assumption) | (with_reducible refine Up.alloc ?_ _) | (with_reducible refine Up.drew ?_) | ((with_reducible refine Up.set ?_ ?_ _); rotate_left; focus (first | omega | (simp; done) | (simp; omega))) | (with_reducible refine Up.drewN ?_ _) | (with_reducible refine Up.call ?_ (by with_reducible assumption))))) HF.out rfl
  | error e =>
    cases e with
    | none =>
      have H := hid r
      have HF := hid (show answerF s = [98, 97, 100] by unfold answerF; rw [r])
      clear r
      go_enter Tryz.func51, Tryz.ntmps51
      go_wp2_with (first
                        | ((go_at_call 91; (with_reducible refine (line_any s _ Hs.out (HD.out.up (by (repeat (first | (with_reducible exact Up.refl _) | (with_reducible assumption) | (with_reducible refine Up.alloc ?_ _) | (with_reducible refine Up.drew ?_) | ((with_reducible refine Up.set ?_ ?_ _); rotate_left; focus (first | omega | (simp; done) | (simp; omega))) | (with_reducible refine Up.drewN ?_ _) | (with_reducible refine Up.call ?_ (by with_reducible assumption))))))).mono ?_); rintro e w1 ⟨x1, v1, hx1, rfl, hv1, hb1⟩ <;> (rw [H.out] at hx1; subst hx1; obtain ⟨t1, rfl⟩ := hv1; dsimp only [unV])) <;> (have hle := Up.le hb1; (try simp only [World.size_alloc, World.size_setCell, World.size_drew, World.heap_drewN] at hle); clear hle))
                        | (go_at_call 82; refine (ab_hit (.iface 74 (.int .i64 2)) ⟨w1.heap.size, 0, none⟩ .nilIface _ rfl rfl ((HD.out.up (by (repeat (first | (with_reducible exact Up.refl _) | (with_reducible assumption) | (with_reducible refine Up.alloc ?_ _) | (with_reducible refine Up.drew ?_) | ((with_reducible refine Up.set ?_ ?_ _); rotate_left; focus (first | omega | (simp; done) | (simp; omega))) | (with_reducible refine Up.drewN ?_ _) | (with_reducible refine Up.call ?_ (by with_reducible assumption)))))).door) (by simp) (by simp)).mono ?_; rintro e w2 ⟨rfl, rfl⟩))
      go_ret
      exact RetX.mk ([98, 97, 100] : List UInt8) (by (repeat (first | (with_reducible exact Up.refl _) | (with_reducible assumption) | (with_reducible refine Up.alloc ?_ _) | (with_reducible refine Up.drew ?_) | ((with_reducible refine Up.set ?_ ?_ _); rotate_left; focus (first | omega | (simp; done) | (simp; omega))) | (with_reducible refine Up.drewN ?_ _) | (with_reducible refine Up.call ?_ (by with_reducible assumption))))) HF.out rfl
    | some n =>
      have H := hid r
      have HF := hid (show answerF s = nameF n by unfold answerF; rw [r])
      clear r
      go_enter Tryz.func51, Tryz.ntmps51
      go_wp2_with (first
                        | ((go_at_call 91; (with_reducible refine (line_any s _ Hs.out (HD.out.up (by (repeat (first | (with_reducible exact Up.refl _) | (with_reducible assumption) | (with_reducible refine Up.alloc ?_ _) | (with_reducible refine Up.drew ?_) | ((with_reducible refine Up.set ?_ ?_ _); rotate_left; focus (first | omega | (simp; done) | (simp; omega))) | (with_reducible refine Up.drewN ?_ _) | (with_reducible refine Up.call ?_ (by with_reducible assumption))))))).mono ?_); rintro e w1 ⟨x1, v1, hx1, rfl, hv1, hb1⟩ <;> (rw [H.out] at hx1; subst hx1; obtain ⟨t1, rfl⟩ := hv1)) <;> (have hle := Up.le hb1; (try simp only [World.size_alloc, World.size_setCell, World.size_drew, World.heap_drewN] at hle); clear hle))
                        | (go_at_call 82; (with_reducible refine (ab_miss n ⟨w1.heap.size, 0, none⟩ .nilIface _ ((HD.out.up (by (repeat (first | (with_reducible exact Up.refl _) | (with_reducible assumption) | (with_reducible refine Up.alloc ?_ _) | (with_reducible refine Up.drew ?_) | ((with_reducible refine Up.set ?_ ?_ _); rotate_left; focus (first | omega | (simp; done) | (simp; omega))) | (with_reducible refine Up.drewN ?_ _) | (with_reducible refine Up.call ?_ (by with_reducible assumption)))))).door) (by simp) (by simp)).mono ?_); rintro e w2 ⟨rfl, hb2⟩; apply ck hb2 (w1.heap.size + 1) 0; (focus (first | (go_simp; done) | (go_simp; rfl))); intro z0; apply fk hb2 (w1.heap.size + 1); (focus (first | (go_simp; done) | (go_simp; rfl))); (focus (intro o; go_simp)); intro zf; have zl := World.block_lt_of_cell? _ _ z0; dsimp only at zl)
                        | (go_at_call 82; (with_reducible refine (as_hit n ⟨w1.heap.size + 1, 0, none⟩ (.int .i64 0) _ ((HD.out.up (by (repeat (first | (with_reducible exact Up.refl _) | (with_reducible assumption) | (with_reducible refine Up.alloc ?_ _) | (with_reducible refine Up.drew ?_) | ((with_reducible refine Up.set ?_ ?_ _); rotate_left; focus (first | omega | (simp; done) | (simp; omega))) | (with_reducible refine Up.drewN ?_ _) | (with_reducible refine Up.call ?_ (by with_reducible assumption)))))).door) z0 (zf 0)).mono ?_); rintro e w3 ⟨rfl, hw3⟩; (have zc : w3.cell? ⟨w1.heap.size + 1, 0, none⟩ = some (.int .i64 (n : Int)) := (by rw [hw3]; exact set_read _ (alloc_read (alloc_read (alloc_read (alloc_read z0)))))); (have hle1 := Up.le hb1); (have hb3 : Up w w3 := (by rw [hw3]; (repeat (first | (with_reducible exact Up.refl _) | (with_reducible assumption) | (with_reducible refine Up.alloc ?_ _) | (with_reducible refine Up.drew ?_) | ((with_reducible refine Up.set ?_ ?_ _); rotate_left; focus (first | omega | (simp; done) | (simp; omega))) | (with_reducible refine Up.drewN ?_ _) | (with_reducible refine Up.call ?_ (by with_reducible assumption)))))); clear hw3)
                        | (go_at_call 92; (with_reducible refine (name_any n _).mono ?_); rintro e w4 ⟨rfl, rfl⟩))
      go_ret
      exact RetX.mk (nameF n) (by (repeat (first | (with_reducible exact Up.refl _) | (with_reducible assumption) | (with_reducible refine Up.alloc ?_ _) | (with_reducible refine Up.drew ?_) | ((with_reducible refine Up.set ?_ ?_ _); rotate_left; focus (first | omega | (simp; done) | (simp; omega))) | (with_reducible refine Up.drewN ?_ _) | (with_reducible refine Up.call ?_ (by with_reducible assumption))))) HF.out rfl
end Go.Proofs.YtmjcnpolnknkkaaGreatDoor

set_option linter.unusedVariables false
set_option linter.unusedSimpArgs false
namespace Go.Proofs.YtmjcnpolnknkkaaGreatDoor
open Go.RowKit

/-- No c from f on, up to i. -/
def Clean (c : UInt8) (s : List UInt8) (f i : Nat) : Prop := f ≤ i ∧ i ≤ s.length ∧ ∀ x ∈ (s.drop f).take (i - f), x ≠ c
theorem Clean.start (c : UInt8) (s : List UInt8) {f : Nat} (h : f ≤ s.length) : Clean c s f f := ⟨Nat.le_refl _, h, fun x hx => by simp at hx⟩
theorem Clean.next {c : UInt8} {s : List UInt8} {f i : Nat} (h : Clean c s f i) (hi : i < s.length) (hx : s[i]? ≠ some c) : Clean c s f (i + 1) := by
  obtain ⟨h1, h2, h3⟩ := h
  refine ⟨by omega, hi, fun x hm => ?_⟩
  have e : i + 1 - f = (i - f) + 1 := by omega
  have hl : i - f < (s.drop f).length := by rw [List.length_drop]; omega
  rw [e, List.take_succ_eq_append_getElem hl] at hm
  rcases List.mem_append.1 hm with hm | hm
  · exact h3 x hm
  · simp only [List.mem_singleton] at hm
    intro hc
    apply hx
    have e2 : (s.drop f)[i - f]? = s[i]? := by rw [List.getElem?_drop]; congr 1; omega
    rw [← e2, List.getElem?_eq_getElem hl, ← hm, hc]
theorem cut_hit {c : UInt8} {s : List UInt8} {f i : Nat} (h : Clean c s f i) (hi : i < s.length) (hx : s[i]? = some c) : splitF c (s.drop f) = (s.drop f).take (i - f) :: splitF c (s.drop (i + 1)) := by
  obtain ⟨h1, h2, h3⟩ := h
  have e : s.drop f = (s.drop f).take (i - f) ++ c :: s.drop (i + 1) := by
    conv => lhs; rw [← List.take_append_drop (i - f) (s.drop f)]
    congr 1
    rw [List.drop_drop]
    have e2 : f + (i - f) = i := by omega
    rw [e2, List.drop_eq_getElem_cons hi]
    congr 1
    rw [List.getElem?_eq_getElem hi] at hx
    injection hx
  conv => lhs; rw [e]
  exact splitF_yes _ h3
theorem cut_end {c : UInt8} {s : List UInt8} {f : Nat} (h : Clean c s f s.length) : splitF c (s.drop f) = [s.drop f] := by
  obtain ⟨h1, h2, h3⟩ := h
  apply splitF_no
  intro x hx
  exact h3 x (by rw [List.take_of_length_le (by rw [List.length_drop]; omega)]; exact hx)
end Go.Proofs.YtmjcnpolnknkkaaGreatDoor

set_option linter.unusedVariables false
set_option linter.unusedSimpArgs false
namespace Go.Proofs.YtmjcnpolnknkkaaGreatDoor
open Go.RowKit

theorem texts_len {l : List Sp} (h : l.length ≤ 32) (hw : ∀ q ∈ l, Wide q) : (textsF l).length ≤ 2000 := by
  unfold textsF
  split
  · simp
  · have h1 := join_len (l.map stextF) 61 (fun x hx => by
      obtain ⟨p, hp, rfl⟩ := List.mem_map.1 hx
      exact stext_len (hw p hp))
    rw [List.length_map] at h1
    omega
theorem told2_len {r : Except Nat Sp} {t : List UInt8} (h : told2 r = .ok t) (hw : ∀ p, r = .ok p → Wide p) : t.length ≤ 2000 := by
  cases r with
  | error n => cases h
  | ok p =>
    injection h with h
    subst h
    have := stext_len (hw p rfl)
    omega
theorem overLF_ok {f : List Int → Sp → Except (Option Nat) (List UInt8)} {s t u : List UInt8} (h : overLF f s t = .ok u) : ∃ p x, f p x = .ok u := by
  unfold overLF at h
  split at h
  · cases h
  · exact ⟨_, _, h⟩
theorem line_len {s t : List UInt8} (h : lineF s = .ok t) : t.length ≤ 2000 := by
  rcases line_ways s with ⟨a, b, c, -, hf⟩ | ⟨a, b, c, d, -, hf⟩ | ⟨-, -, hf⟩
  · rw [hf] at h
    unfold line3F at h
    cases ho : opF a with
    | some f =>
      rw [ho] at h
      dsimp only at h
      obtain ⟨K, -, -, -, hw⟩ := op_any ho
      unfold two2F at h
      split at h
      · cases h
      · split at h
        · cases h
        · exact told2_len h (hw _ _)
    | none =>
      rw [ho] at h
      dsimp only at h
      split at h
      · unfold raiseF at h
        split at h
        · cases h
        · split at h
          · split at h
            · exact told2_len h (fun p hp => power_wide hp)
            · cases h
          · cases h
      · split at h
        · obtain ⟨p, x, h⟩ := overLF_ok h
          exact told2_len h (fun q hq => range_wide hq)
        · split at h
          · obtain ⟨p, x, h⟩ := overLF_ok h
            exact told2_len h (fun q hq => nrun_wide hq)
          · cases h
  · rw [hf] at h
    unfold line4F at h
    split at h
    · obtain ⟨p, x, h⟩ := overLF_ok h
      unfold rootsF at h
      split at h
      · cases h
      · unfold toldL at h
        split at h
        · rename_i l hl
          injection h with h
          subst h
          obtain ⟨h1, h2⟩ := findF_bd hl
          exact texts_len h1 h2
        · cases h
    · cases h
  · rw [hf] at h; cases h
theorem name_len (n : Nat) : (nameF n).length ≤ 10 := by
  unfold nameF
  split <;> simp
theorem answer_len (s : List UInt8) : (answerF s).length ≤ 2000 := by
  unfold answerF
  split
  · rename_i t h
    exact line_len h
  · simp
  · rename_i n h
    have := name_len n
    omega
/-- What behind the last newline is empty is no row. -/
def dropE (l : List (List UInt8)) : List (List UInt8) := if l.getLast? = some [] then l.dropLast else l
def rowsF (t : List UInt8) : List (List UInt8) := dropE (splitF 10 t)
def sayF (l : List (List UInt8)) : List UInt8 := l.flatMap (fun s => answerF s ++ [10])
def sessF (t : List UInt8) : List UInt8 := sayF (rowsF t)
theorem rows_no {t : List UInt8} (h : ∀ x ∈ t, x ≠ 10) (h0 : t ≠ []) : rowsF t = [t] := by
  unfold rowsF
  rw [splitF_no h]
  unfold dropE
  simp [h0]
theorem rows_yes {a : List UInt8} (b : List UInt8) (h : ∀ x ∈ a, x ≠ 10) : rowsF (a ++ 10 :: b) = a :: rowsF b := by
  unfold rowsF
  rw [splitF_yes b h]
  have hp := split_pos 10 b
  cases hl : splitF 10 b with
  | nil => rw [hl] at hp; simp at hp
  | cons c l =>
    unfold dropE
    rw [List.getLast?_cons_cons, List.dropLast_cons_cons]
    split <;> rfl
theorem sess_nil : sessF [] = [] := rfl
theorem sess_no {t : List UInt8} (h : ∀ x ∈ t, x ≠ 10) (h0 : t ≠ []) : sessF t = answerF t ++ [10] := by
  unfold sessF
  rw [rows_no h h0]
  simp [sayF]
theorem sess_yes {a : List UInt8} (b : List UInt8) (h : ∀ x ∈ a, x ≠ 10) : sessF (a ++ 10 :: b) = (answerF a ++ [10]) ++ sessF b := by
  unfold sessF
  rw [rows_yes b h]
  simp [sayF]
theorem rows_len (t : List UInt8) : (rowsF t).length ≤ t.length + 1 ∧ ∀ x ∈ rowsF t, x.length ≤ t.length := by
  obtain ⟨h1, h2⟩ := split_len 10 t
  unfold rowsF dropE
  split
  · refine ⟨by rw [List.length_dropLast]; omega, fun x hx => h2 x ((List.dropLast_sublist _).subset hx)⟩
  · exact ⟨h1, h2⟩
theorem say_len (l : List (List UInt8)) : (sayF l).length ≤ l.length * 2001 := by
  induction l with
  | nil => simp [sayF]
  | cons s l ih =>
    have h := answer_len s
    unfold sayF at *
    rw [List.flatMap_cons]
    simp only [List.length_append, List.length_cons, List.length_nil] at *
    omega
theorem sess_len {t : List UInt8} (h : t.length ≤ 3000) : (sessF t).length ≤ 7000000 := by
  have h1 := say_len (rowsF t)
  have h2 := (rows_len t).1
  unfold sessF
  omega
/-- Rows that are whole are answered for themselves. -/
theorem sess_app (b : List UInt8) : ∀ (n : Nat) (a : List UInt8), a.length ≤ n → sessF (a ++ 10 :: b) = sessF (a ++ [10]) ++ sessF b
  | n, a, hn => by
    rcases cut_cases 10 a with h | ⟨c, d, rfl, h⟩
    · rw [sess_yes b h, sess_yes [] h, sess_nil, List.append_nil]
    · have e1 : (c ++ 10 :: d) ++ 10 :: b = c ++ 10 :: (d ++ 10 :: b) := by simp
      have e2 : (c ++ 10 :: d) ++ [10] = c ++ 10 :: (d ++ [10]) := by simp
      rw [e1, e2, sess_yes _ h, sess_yes _ h, sess_app b (n - 1) d (by simp at hn; omega)]
      simp only [List.append_assoc]
termination_by n => n
decreasing_by simp at hn; omega
end Go.Proofs.YtmjcnpolnknkkaaGreatDoor
