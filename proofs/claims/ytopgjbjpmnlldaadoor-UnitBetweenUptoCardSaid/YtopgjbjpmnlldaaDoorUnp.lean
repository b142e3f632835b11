/- The walks of package unit, the other way: strings.Cut at a point, strconv.Atoi, Parse: a text as a number. -/
import Derived.Test.YtopgjbjpmnlldaaDoorUnt
import Derived.Lib.AtoiErrMem

set_option linter.unusedVariables false
set_option linter.unusedSimpArgs false
namespace Go.Proofs.YtopgjbjpmnlldaaDoor
open Go.RowKit

theorem index_no {l : List UInt8} (h : ∀ x ∈ l, x ≠ 46) : Lib.indexByte l 46 = -1 := by
  induction l with
  | nil => rfl
  | cons x l ih =>
    have hx : (x == 46) = false := beq_eq_false_iff_ne.2 (h x (by simp))
    unfold Lib.indexByte
    rw [hx, ih (fun y hy => h y (by simp [hy]))]
    rfl
theorem index_yes {a : List UInt8} (h : ∀ x ∈ a, x ≠ 46) (b : List UInt8) : Lib.indexByte (a ++ 46 :: b) 46 = (a.length : Int) := by
  induction a with
  | nil => rfl
  | cons x a ih =>
    have hx : (x == 46) = false := beq_eq_false_iff_ne.2 (h x (by simp))
    have h2 := ih (fun y hy => h y (by simp [hy]))
    show (if (x == 46) = true then (0 : Int) else if (Lib.indexByte (a ++ 46 :: b) 46 == -1) = true then -1 else Lib.indexByte (a ++ 46 :: b) 46 + 1) = _
    rw [hx, h2, if_neg (by simp), if_neg (by simp)]
    simp
theorem dot_cases (s : List UInt8) : (∀ x ∈ s, x ≠ 46) ∨ ∃ a b, s = a ++ 46 :: b ∧ ∀ x ∈ a, x ≠ 46 := by
  induction s with
  | nil => exact .inl (fun x hx => by cases hx)
  | cons x s ih =>
    by_cases hx : x = 46
    · subst hx; exact .inr ⟨[], s, rfl, fun y hy => by cases hy⟩
    · rcases ih with h | ⟨a, b, rfl, h⟩
      · exact .inl (fun y hy => by rcases List.mem_cons.1 hy with rfl | hy; exact hx; exact h y hy)
      · exact .inr ⟨x :: a, b, rfl, fun y hy => by rcases List.mem_cons.1 hy with rfl | hy; exact hx; exact h y hy⟩
def cutV (a b : List UInt8) (t : Bool) : Value := .tuple #[strV a, strV b, .bool t]
theorem cutV_eq (a b : List UInt8) (t : Bool) : cutV a b t = .tuple #[.string ⟨a.toArray⟩, .string ⟨b.toArray⟩, .bool t] := rfl
attribute [go_sem] cutV_eq
theorem ba_ext2 (s : List UInt8) (n m : Nat) : (⟨s.toArray⟩ : ByteArray).extract n m = ⟨((s.drop n).take (m - n)).toArray⟩ := by
  apply ByteArray.ext
  simp
set_option maxRecDepth 100000 in
set_option maxHeartbeats 4000000 in
theorem cut0_yes (a b : List UInt8) (ha : ∀ x ∈ a, x ≠ 46) (hs : (a ++ 46 :: b).length ≤ 9223372036854775807) (w : World) :
    Calls Tryd.prog 72 #[.string ⟨(a ++ 46 :: b).toArray⟩, .string ⟨#[46]⟩] w (RetX (fun t => cutV a b t) true w) := by
  have hi := index_yes ha b
  have hx := ba_ext (a ++ 46 :: b) a.length
  rw [List.take_left' rfl] at hx
  have hx2 : (⟨(a ++ 46 :: b).toArray⟩ : ByteArray).extract (a.length + 1) (a ++ 46 :: b).length = ⟨b.toArray⟩ := by
    rw [ba_ext2]
    have e1 : (a ++ 46 :: b).drop (a.length + 1) = b := by
      rw [List.drop_append, List.drop_of_length_le (by omega)]
      have : a.length + 1 - a.length = 1 := by omega
      rw [this]; rfl
    rw [e1, List.take_of_length_le (by simp; omega)]
  have hl : (a ++ 46 :: b).length = a.length + b.length + 1 := by simp; omega
  have HI := hid (fun W => (by have h := Tryd.stringslite_Index_one ⟨(a ++ 46 :: b).toArray⟩ 46 W; rw [show Lib.indexByte (⟨(a ++ 46 :: b).toArray⟩ : ByteArray).data.toList 46 = (a.length : Int) from hi] at h; exact h : Calls Tryd.prog 87 #[.string ⟨(a ++ 46 :: b).toArray⟩, .string ⟨#[46]⟩] W fun e w' => e = .returned (.int .i64 (a.length : Int)) ∧ w' = W))
  have HX := hid hx; have HX2 := hid hx2
  have hn0 : decide ((0 : Int) ≤ (a.length : Int)) = true := decide_eq_true (by omega)
  have hb1 : (a.length : Int) ≤ ((a ++ 46 :: b).length : Int) := by omega
  have hb2 : (a.length : Int) + 1 ≤ ((a ++ 46 :: b).length : Int) := by omega
  have hb3 : a.length ≤ (a ++ 46 :: b).length := by omega
  have hb4 : a.length + 1 ≤ (a ++ 46 :: b).length := by omega
  have hb5 : (a.length : Int) ≤ 9223372036854775806 := by omega
  clear hi hx hx2 ha
  generalize hT : a ++ 46 :: b = T at *
  clear hT hl
  go_enter Tryd.func72, Tryd.ntmps72
  go_wp2_with (first
                        | (go_at_call 87; refine (HI.out _).mono ?_; rintro e w1 ⟨rfl, rfl⟩))
  go_region
  all_goals go_wp2
  all_goals rw [HX.out, HX2.out]
  all_goals go_ret3
  all_goals exact RetX.same (by (repeat (first | (with_reducible exact Up.refl _) | (with_reducible assumption) | (with_reducible refine Up.alloc ?_ _) | (with_reducible refine Up.drew ?_) | ((with_reducible refine Up.set ?_ ?_ _); rotate_left; focus (first | omega | (simp; done) | (simp; omega))) | (with_reducible refine Up.drewN ?_ _) | (with_reducible refine Up.call ?_ (by with_reducible assumption))))) rfl
set_option maxRecDepth 100000 in
set_option maxHeartbeats 4000000 in
theorem cut0_no (s : List UInt8) (ha : ∀ x ∈ s, x ≠ 46) (w : World) :
    Calls Tryd.prog 72 #[.string ⟨s.toArray⟩, .string ⟨#[46]⟩] w (RetX (fun t => cutV s [] t) false w) := by
  have hi := index_no ha
  have HI := hid (fun W => (by have h := Tryd.stringslite_Index_one ⟨s.toArray⟩ 46 W; rw [show Lib.indexByte (⟨s.toArray⟩ : ByteArray).data.toList 46 = -1 from hi] at h; exact h : Calls Tryd.prog 87 #[.string ⟨s.toArray⟩, .string ⟨#[46]⟩] W fun e w' => e = .returned (.int .i64 (-1)) ∧ w' = W))
  clear hi ha
  go_enter Tryd.func72, Tryd.ntmps72
  go_wp2_with (first
                        | (go_at_call 87; refine (HI.out _).mono ?_; rintro e w1 ⟨rfl, rfl⟩))
  go_ret3
  exact RetX.same (by (repeat (first | (with_reducible exact Up.refl _) | (with_reducible assumption) | (with_reducible refine Up.alloc ?_ _) | (with_reducible refine Up.drew ?_) | ((with_reducible refine Up.set ?_ ?_ _); rotate_left; focus (first | omega | (simp; done) | (simp; omega))) | (with_reducible refine Up.drewN ?_ _) | (with_reducible refine Up.call ?_ (by with_reducible assumption))))) rfl
theorem cut_yes (a b : List UInt8) (ha : ∀ x ∈ a, x ≠ 46) (hs : (a ++ 46 :: b).length ≤ 9223372036854775807) (w : World) :
    Calls Tryd.prog 52 #[.string ⟨(a ++ 46 :: b).toArray⟩, .string ⟨#[46]⟩] w (RetX (fun t => cutV a b t) true w) := by
  have HA := hid ha; have HS := hid hs
  clear ha hs
  go_enter Tryd.func52, Tryd.ntmps52
  go_wp2_with (first
                        | ((go_at_call 72; (with_reducible refine (cut0_yes a b HA.out HS.out _).mono ?_); rintro e w1 ⟨x1, rfl, rfl, hb1⟩) <;> (have hle := Up.le hb1; (try simp only [World.size_alloc, World.size_setCell, World.size_drew, World.heap_drewN] at hle); clear hle)))
  go_ret3
  exact RetX.same (by (repeat (first | (with_reducible exact Up.refl _) | (with_reducible assumption) | (with_reducible refine Up.alloc ?_ _) | (with_reducible refine Up.drew ?_) | ((with_reducible refine Up.set ?_ ?_ _); rotate_left; focus (first | omega | (simp; done) | (simp; omega))) | (with_reducible refine Up.drewN ?_ _) | (with_reducible refine Up.call ?_ (by with_reducible assumption))))) rfl
theorem cut_no (s : List UInt8) (ha : ∀ x ∈ s, x ≠ 46) (w : World) :
    Calls Tryd.prog 52 #[.string ⟨s.toArray⟩, .string ⟨#[46]⟩] w (RetX (fun t => cutV s [] t) false w) := by
  have HA := hid ha
  clear ha
  go_enter Tryd.func52, Tryd.ntmps52
  go_wp2_with (first
                        | ((go_at_call 72; (with_reducible refine (cut0_no s HA.out _).mono ?_); rintro e w1 ⟨x1, rfl, rfl, hb1⟩) <;> (have hle := Up.le hb1; (try simp only [World.size_alloc, World.size_setCell, World.size_drew, World.heap_drewN] at hle); clear hle)))
  go_ret3
  exact RetX.same (by (repeat (first | (with_reducible exact Up.refl _) | (with_reducible assumption) | (with_reducible refine Up.alloc ?_ _) | (with_reducible refine Up.drew ?_) | ((with_reducible refine Up.set ?_ ?_ _); rotate_left; focus (first | omega | (simp; done) | (simp; omega))) | (with_reducible refine Up.drewN ?_ _) | (with_reducible refine Up.call ?_ (by with_reducible assumption))))) rfl
/-- What strconv's two errors are, where they are laid. -/
def Errs (w : World) : Prop := (∃ t p, w.var? Tryd.prog "strconv.ErrSyntax" = some #[.iface t p]) ∧ ∃ t p, w.var? Tryd.prog "strconv.ErrRange" = some #[.iface t p]
theorem var_up {w w' : World} {n : String} {cs : Array Value} (h : w.var? Tryd.prog n = some cs) (hu : Up w w') : w'.var? Tryd.prog n = some cs := by
  unfold World.var? at h ⊢
  cases hg : (Tryd.prog.globalNamed n) with
  | none => rw [hg] at h; cases h
  | some g =>
    rw [hg] at h
    simp only [Option.bind_some] at h ⊢
    rcases Nat.lt_or_ge g w.heap.size with hlt | hge
    · rw [hu.block g hlt]; exact h
    · rw [Array.getElem?_eq_none hge] at h; cases h
theorem Errs.up {w w' : World} (h : Errs w) (hu : Up w w') : Errs w' := by
  obtain ⟨⟨t, p, h1⟩, u, q, h2⟩ := h
  exact ⟨⟨t, p, var_up h1 hu⟩, u, q, var_up h2 hu⟩
theorem bytes_up (w : World) (T : TypeId) (t : ByteArray) : Up w (Lib.bytesWorld w T t) := Lib.bytesWorld_below w T t
theorem atoi_ok (l : List UInt8) (n : Int) (h : Lib.atoiAll l = .ok n) (hl : l.length ≤ 2000000) (w : World) : Calls Tryd.prog 53 #[.string ⟨l.toArray⟩] w (RetX (fun n => .tuple #[.int .i64 n, .nilIface]) n w) :=
  (Tryd.strconv_Atoi_ok ⟨l.toArray⟩ (by simp [ByteArray.size]; omega) n h w).mono fun e w' k => ⟨_, rfl, k.1, by
    rcases k.2 with rfl | ⟨t, rfl⟩
    · exact Up.refl _
    · exact bytes_up w _ t⟩
theorem atoi_bad (l : List UInt8) (h : ∀ n, Lib.atoiAll l ≠ .ok n) (hl : l.length ≤ 2000000) (w : World) (hE : Errs w) : Calls Tryd.prog 53 #[.string ⟨l.toArray⟩] w fun e w' => ∃ n N, e = .returned (.tuple #[.int .i64 n, .iface 120 (.pointer (some ⟨N, 0, none⟩))]) ∧ Up w w' := by
  obtain ⟨⟨t, p, h1⟩, u, q, h2⟩ := hE
  match ha : Lib.atoiAll l with
  | .ok n => exact absurd ha (h n)
  | Lib.NumEnd.syntax => exact (Tryd.strconv_Atoi_syntax_var ⟨l.toArray⟩ (by simp [ByteArray.size]; omega) ha t p w h1).mono fun e w' k => (by
      obtain ⟨N, k1, -, -, k4⟩ := k
      exact ⟨_, N, k1, k4⟩)
  | .range => exact (Tryd.strconv_Atoi_range_var ⟨l.toArray⟩ (by simp [ByteArray.size]; omega) ha u q w h2).mono fun e w' k => (by
      obtain ⟨N, k1, -, -, k4⟩ := k
      exact ⟨_, N, k1, k4⟩)
theorem text_dot (n : Int) : (46 : UInt8) ∈ textF n := by unfold textF; simp
theorem parse_nodot {s : List UInt8} (h : ∀ x ∈ s, x ≠ 46) : parseF s = .error 2 := by
  unfold parseF
  cases hp : parseN s with
  | none => rfl
  | some n =>
    exfalso
    have := (parse_back hp).1
    exact h 46 (by rw [← this]; exact text_dot n) rfl
theorem parse_long {s : List UInt8} (h : 12 < s.length) : parseF s = .error 2 := by
  unfold parseF parseN
  rw [if_neg (by omega)]
theorem parse_bad {a b : List UInt8} (ha : ∀ x ∈ a, x ≠ 46) (h : ∀ n, Lib.atoiAll (a ++ b) ≠ .ok n) : parseF (a ++ 46 :: b) = .error 2 := by
  unfold parseF parseN
  rw [erase_at ha]
  split
  · rename_i h1
    split at h1
    · split at h1
      · rename_i n hn; exact absurd hn (h n)
      · rfl
    · rfl
  · rename_i m h1
    exfalso
    split at h1
    · split at h1
      · rename_i n hn; exact absurd hn (h n)
      · cases h1
    · cases h1
theorem parse_other {a b : List UInt8} (ha : ∀ x ∈ a, x ≠ 46) {n : Int} (h : Lib.atoiAll (a ++ b) = .ok n) (ht : ¬ textF n = a ++ 46 :: b) : parseF (a ++ 46 :: b) = .error 2 := by
  unfold parseF parseN
  rw [erase_at ha, h]
  dsimp only
  rw [if_neg ht, ite_self]
theorem parse_is {a b : List UInt8} (ha : ∀ x ∈ a, x ≠ 46) {n : Int} (h : Lib.atoiAll (a ++ b) = .ok n) (ht : textF n = a ++ 46 :: b) (hl : (a ++ 46 :: b).length ≤ 12) : parseF (a ++ 46 :: b) = if -1000000000 ≤ n ∧ n ≤ 1000000000 then .ok n else .error 1 := by
  unfold parseF parseN
  rw [erase_at ha, h]
  dsimp only
  rw [if_pos hl, if_pos ht]
theorem pu_bd (l : List UInt8) : ∀ (acc u : Nat), Lib.parseUint10 acc l = .ok u → u < (acc + 1) * 10 ^ l.length := by
  induction l with
  | nil => intro acc u h; unfold Lib.parseUint10 at h; injection h with h; simp; omega
  | cons c l ih =>
    intro acc u h
    unfold Lib.parseUint10 at h
    split at h
    · rename_i hc
      split at h
      · cases h
      · split at h
        · cases h
        · have h1 := ih _ u h
          rw [List.length_cons]
          refine Nat.lt_of_lt_of_le h1 ?_
          rw [Nat.pow_succ, Nat.mul_comm (10 ^ l.length) 10, ← Nat.mul_assoc]
          exact Nat.mul_le_mul_right _ (by omega)
    · cases h
theorem pm_bd {l : List UInt8} {u : Nat} (h : Lib.parseMag l = .ok u) : u < 10 ^ l.length := by
  unfold Lib.parseMag at h
  split at h
  · cases h
  · have := pu_bd l 0 u h
    simpa using this
theorem atoi_bd {l : List UInt8} {n : Int} (h : Lib.atoiAll l = .ok n) (hl : l.length ≤ 12) : -1000000000000000 ≤ n ∧ n ≤ 1000000000000000 := by
  unfold Lib.atoiAll at h
  split at h
  · cases h
  · rename_i c r
    dsimp only at h
    split at h
    · cases h
    · cases h
    · rename_i u hu
      have h1 := pm_bd hu
      have h2 : (if c.toNat = 43 ∨ c.toNat = 45 then r else c :: r).length ≤ 12 := by split <;> simp at * <;> omega
      have h3 : (10 : Nat) ^ (if c.toNat = 43 ∨ c.toNat = 45 then r else c :: r).length ≤ 10 ^ 12 := Nat.pow_le_pow_right (by decide) h2
      split at h
      · cases h
      · split at h
        · cases h
        · injection h with h
          split at h <;> omega
def paR : Except Nat Int → Value
  | .ok n => .tuple #[.int .i64 n, .nilIface]
  | .error e => .tuple #[.int .i64 0, .iface 62 (.int .i64 e)]
theorem str_ne {x y : List UInt8} (h : ¬ x = y) : ¬ (⟨x.toArray⟩ : ByteArray) = ⟨y.toArray⟩ := fun e => h (by
  have := congrArg (fun b : ByteArray => b.data.toList) e
  simpa using this)


set_option maxRecDepth 100000 in
set_option maxHeartbeats 8000000 in
theorem parse_any (s : List UInt8) (hs : s.length ≤ 1048576) (w : World) (hp : Pow w) (he : Errs w) : Calls Tryd.prog 29 #[.string ⟨s.toArray⟩] w (RetX paR (parseF s) w) := by
  have HP := hid hp; have HE := hid he
  clear hp he
  have hsi : (s.length : Int) ≤ 1048576 := by omega
  rcases dot_cases s with hd | ⟨a, b, rfl, hd⟩
  · rw [parse_nodot hd]
    have HC := hid (fun W => cut_no s hd W)
    clear hd
    have hz : ((⟨s.toArray⟩ : ByteArray) ++ ⟨([] : List UInt8).toArray⟩) = ⟨s.toArray⟩ := by rw [ba_app, List.append_nil]
    have hz2 : ((⟨s.toArray⟩ : ByteArray) ++ ⟨#[]⟩) = ⟨s.toArray⟩ := hz
    have ways : (∃ n, Lib.atoiAll s = .ok n) ∨ ∀ n, Lib.atoiAll s ≠ .ok n := by
      cases h : Lib.atoiAll s with
      | ok n => exact .inl ⟨n, rfl⟩
      | _ => exact .inr (fun n e => by cases e)
    rcases ways with ⟨n, h⟩ | h
    · have HA := hid (fun W => atoi_ok s n h (by omega) W)
      clear h
      go_enter Tryd.func29, Tryd.ntmps29
      go_wp2_with (first
                        | ((go_at_call 52; (with_reducible refine (HC.out _).mono ?_); rintro e w1 ⟨x1, rfl, rfl, hb1⟩) <;> (have hle := Up.le hb1; (try simp only [World.size_alloc, World.size_setCell, World.size_drew, World.heap_drewN] at hle); clear hle))
                        | ((go_at_call 53; (with_reducible refine (HA.out _).mono ?_); rintro e w2 ⟨x2, rfl, rfl, hb2⟩) <;> (have hle := Up.le hb2; (try simp only [World.size_alloc, World.size_setCell, World.size_drew, World.heap_drewN] at hle); clear hle)))
      all_goals go_ret2
      all_goals exact RetX.same (by (repeat (first | (with_reducible exact Up.refl _) | (with_reducible assumption) | (with_reducible refine Up.alloc ?_ _) | (with_reducible refine Up.drew ?_) | ((with_reducible refine Up.set ?_ ?_ _); rotate_left; focus (first | omega | (simp; done) | (simp; omega))) | (with_reducible refine Up.drewN ?_ _) | (with_reducible refine Up.call ?_ (by with_reducible assumption))))) rfl
    · have HA := hid (fun W hE => atoi_bad s h (by omega) W hE)
      clear h
      go_enter Tryd.func29, Tryd.ntmps29
      go_wp2_with (first
                        | ((go_at_call 52; (with_reducible refine (HC.out _).mono ?_); rintro e w1 ⟨x1, rfl, rfl, hb1⟩) <;> (have hle := Up.le hb1; (try simp only [World.size_alloc, World.size_setCell, World.size_drew, World.heap_drewN] at hle); clear hle))
                        | ((go_at_call 53; (with_reducible refine (HA.out _ (HE.out.up (by (repeat (first | (with_reducible exact Up.refl _) | (with_reducible assumption) | (with_reducible refine Up.alloc ?_ _) | (with_reducible refine Up.drew ?_) | ((with_reducible refine Up.set ?_ ?_ _); rotate_left; focus (first | omega | (simp; done) | (simp; omega))) | (with_reducible refine Up.drewN ?_ _) | (with_reducible refine Up.call ?_ (by with_reducible assumption))))))).mono ?_); rintro e w2 ⟨x2, N2, rfl, hb2⟩) <;> (have hle := Up.le hb2; (try simp only [World.size_alloc, World.size_setCell, World.size_drew, World.heap_drewN] at hle); clear hle)))
      all_goals go_ret2
      all_goals exact RetX.same (by (repeat (first | (with_reducible exact Up.refl _) | (with_reducible assumption) | (with_reducible refine Up.alloc ?_ _) | (with_reducible refine Up.drew ?_) | ((with_reducible refine Up.set ?_ ?_ _); rotate_left; focus (first | omega | (simp; done) | (simp; omega))) | (with_reducible refine Up.drewN ?_ _) | (with_reducible refine Up.call ?_ (by with_reducible assumption))))) rfl
  · have HC := hid (fun W => cut_yes a b hd (by omega) W)
    have hz : ((⟨a.toArray⟩ : ByteArray) ++ ⟨b.toArray⟩) = ⟨(a ++ b).toArray⟩ := ba_app a b
    have hab : (a ++ b).length ≤ 2000000 := by simp at hs ⊢; omega
    have hab1 : a.length + b.length ≤ 2000000 := by simpa using hab
    by_cases hl : 12 < (a ++ 46 :: b).length
    · rw [parse_long hl]
      have ways : (∃ n, Lib.atoiAll (a ++ b) = .ok n) ∨ ∀ n, Lib.atoiAll (a ++ b) ≠ .ok n := by
        cases h : Lib.atoiAll (a ++ b) with
        | ok n => exact .inl ⟨n, rfl⟩
        | _ => exact .inr (fun n e => by cases e)
      have hl' : (12 : Int) < ((a ++ 46 :: b).length : Int) := by omega
      rcases ways with ⟨n, h⟩ | h
      · have HA := hid (fun W => atoi_ok (a ++ b) n h hab W)
        clear h hd
        generalize a ++ 46 :: b = T at *
        go_enter Tryd.func29, Tryd.ntmps29
        go_wp2_with (first
                        | ((go_at_call 52; (with_reducible refine (HC.out _).mono ?_); rintro e w1 ⟨x1, rfl, rfl, hb1⟩) <;> (have hle := Up.le hb1; (try simp only [World.size_alloc, World.size_setCell, World.size_drew, World.heap_drewN] at hle); clear hle))
                        | ((go_at_call 53; (with_reducible refine (HA.out _).mono ?_); rintro e w2 ⟨x2, rfl, rfl, hb2⟩) <;> (have hle := Up.le hb2; (try simp only [World.size_alloc, World.size_setCell, World.size_drew, World.heap_drewN] at hle); clear hle)))
        all_goals go_ret2
        all_goals exact RetX.same (by (repeat (first | (with_reducible exact Up.refl _) | (with_reducible assumption) | (with_reducible refine Up.alloc ?_ _) | (with_reducible refine Up.drew ?_) | ((with_reducible refine Up.set ?_ ?_ _); rotate_left; focus (first | omega | (simp; done) | (simp; omega))) | (with_reducible refine Up.drewN ?_ _) | (with_reducible refine Up.call ?_ (by with_reducible assumption))))) rfl
      · have HA := hid (fun W hE => atoi_bad (a ++ b) h hab W hE)
        clear h hd
        generalize a ++ 46 :: b = T at *
        go_enter Tryd.func29, Tryd.ntmps29
        go_wp2_with (first
                        | ((go_at_call 52; (with_reducible refine (HC.out _).mono ?_); rintro e w1 ⟨x1, rfl, rfl, hb1⟩) <;> (have hle := Up.le hb1; (try simp only [World.size_alloc, World.size_setCell, World.size_drew, World.heap_drewN] at hle); clear hle))
                        | ((go_at_call 53; (with_reducible refine (HA.out _ (HE.out.up (by (repeat (first | (with_reducible exact Up.refl _) | (with_reducible assumption) | (with_reducible refine Up.alloc ?_ _) | (with_reducible refine Up.drew ?_) | ((with_reducible refine Up.set ?_ ?_ _); rotate_left; focus (first | omega | (simp; done) | (simp; omega))) | (with_reducible refine Up.drewN ?_ _) | (with_reducible refine Up.call ?_ (by with_reducible assumption))))))).mono ?_); rintro e w2 ⟨x2, N2, rfl, hb2⟩) <;> (have hle := Up.le hb2; (try simp only [World.size_alloc, World.size_setCell, World.size_drew, World.heap_drewN] at hle); clear hle)))
        all_goals go_ret2
        all_goals exact RetX.same (by (repeat (first | (with_reducible exact Up.refl _) | (with_reducible assumption) | (with_reducible refine Up.alloc ?_ _) | (with_reducible refine Up.drew ?_) | ((with_reducible refine Up.set ?_ ?_ _); rotate_left; focus (first | omega | (simp; done) | (simp; omega))) | (with_reducible refine Up.drewN ?_ _) | (with_reducible refine Up.call ?_ (by with_reducible assumption))))) rfl
    · have hl' : ¬ (12 : Int) < ((a ++ 46 :: b).length : Int) := by omega
      have hl12 : (a ++ b).length ≤ 12 := by simp at hl ⊢; omega
      by_cases hw : ∃ n, Lib.atoiAll (a ++ b) = .ok n
      · obtain ⟨n, h⟩ := hw
        have HN := hid (atoi_bd h hl12)
        have HA := hid (fun W => atoi_ok (a ++ b) n h hab W)
        by_cases ht : textF n = a ++ 46 :: b
        · rw [parse_is hd h ht (by omega)]
          by_cases hm : -1000000000 ≤ n ∧ n ≤ 1000000000
          · rw [if_pos hm]
            have HM := hid hm; have HT := hid ht
            clear h hd ht hm
            generalize a ++ 46 :: b = T at *
            go_enter Tryd.func29, Tryd.ntmps29
            go_wp2_with (first
                        | ((go_at_call 52; (with_reducible refine (HC.out _).mono ?_); rintro e w1 ⟨x1, rfl, rfl, hb1⟩) <;> (have hle := Up.le hb1; (try simp only [World.size_alloc, World.size_setCell, World.size_drew, World.heap_drewN] at hle); clear hle))
                        | ((go_at_call 53; (with_reducible refine (HA.out _).mono ?_); rintro e w2 ⟨x2, rfl, rfl, hb2⟩) <;> (have hle := Up.le hb2; (try simp only [World.size_alloc, World.size_setCell, World.size_drew, World.heap_drewN] at hle); clear hle))
                        | ((go_at_call 51; (with_reducible refine (text_any n _ HN.out (HP.out.up (by (repeat (first | (with_reducible exact Up.refl _) | (with_reducible assumption) | (with_reducible refine Up.alloc ?_ _) | (with_reducible refine Up.drew ?_) | ((with_reducible refine Up.set ?_ ?_ _); rotate_left; focus (first | omega | (simp; done) | (simp; omega))) | (with_reducible refine Up.drewN ?_ _) | (with_reducible refine Up.call ?_ (by with_reducible assumption))))))).mono ?_); rintro e w3 ⟨x3, rfl, rfl, hb3⟩ <;> (rw [HT.out])) <;> (have hle := Up.le hb3; (try simp only [World.size_alloc, World.size_setCell, World.size_drew, World.heap_drewN] at hle); clear hle))
                        | ((go_at_call 34; (with_reducible refine (may_yes HM.out _).mono ?_); rintro e w4 ⟨x4, rfl, rfl, hb4⟩) <;> (have hle := Up.le hb4; (try simp only [World.size_alloc, World.size_setCell, World.size_drew, World.heap_drewN] at hle); clear hle)))
            all_goals go_ret2
            all_goals exact RetX.same (by (repeat (first | (with_reducible exact Up.refl _) | (with_reducible assumption) | (with_reducible refine Up.alloc ?_ _) | (with_reducible refine Up.drew ?_) | ((with_reducible refine Up.set ?_ ?_ _); rotate_left; focus (first | omega | (simp; done) | (simp; omega))) | (with_reducible refine Up.drewN ?_ _) | (with_reducible refine Up.call ?_ (by with_reducible assumption))))) rfl
          · rw [if_neg hm]
            have HM := hid hm; have HT := hid ht
            clear h hd ht hm
            generalize a ++ 46 :: b = T at *
            go_enter Tryd.func29, Tryd.ntmps29
            go_wp2_with (first
                        | ((go_at_call 52; (with_reducible refine (HC.out _).mono ?_); rintro e w1 ⟨x1, rfl, rfl, hb1⟩) <;> (have hle := Up.le hb1; (try simp only [World.size_alloc, World.size_setCell, World.size_drew, World.heap_drewN] at hle); clear hle))
                        | ((go_at_call 53; (with_reducible refine (HA.out _).mono ?_); rintro e w2 ⟨x2, rfl, rfl, hb2⟩) <;> (have hle := Up.le hb2; (try simp only [World.size_alloc, World.size_setCell, World.size_drew, World.heap_drewN] at hle); clear hle))
                        | ((go_at_call 51; (with_reducible refine (text_any n _ HN.out (HP.out.up (by (repeat (first | (with_reducible exact Up.refl _) | (with_reducible assumption) | (with_reducible refine Up.alloc ?_ _) | (with_reducible refine Up.drew ?_) | ((with_reducible refine Up.set ?_ ?_ _); rotate_left; focus (first | omega | (simp; done) | (simp; omega))) | (with_reducible refine Up.drewN ?_ _) | (with_reducible refine Up.call ?_ (by with_reducible assumption))))))).mono ?_); rintro e w3 ⟨x3, rfl, rfl, hb3⟩ <;> (rw [HT.out])) <;> (have hle := Up.le hb3; (try simp only [World.size_alloc, World.size_setCell, World.size_drew, World.heap_drewN] at hle); clear hle))
                        | ((go_at_call 34; (with_reducible refine (may_no HM.out _).mono ?_); rintro e w4 ⟨x4, rfl, rfl, hb4⟩) <;> (have hle := Up.le hb4; (try simp only [World.size_alloc, World.size_setCell, World.size_drew, World.heap_drewN] at hle); clear hle)))
            all_goals go_ret2
            all_goals exact RetX.same (by (repeat (first | (with_reducible exact Up.refl _) | (with_reducible assumption) | (with_reducible refine Up.alloc ?_ _) | (with_reducible refine Up.drew ?_) | ((with_reducible refine Up.set ?_ ?_ _); rotate_left; focus (first | omega | (simp; done) | (simp; omega))) | (with_reducible refine Up.drewN ?_ _) | (with_reducible refine Up.call ?_ (by with_reducible assumption))))) rfl
        · rw [parse_other hd h ht]
          have hne := str_ne ht
          have hne2 : (textF n == a ++ 46 :: b) = false := beq_eq_false_iff_ne.2 ht
          clear h hd ht
          generalize a ++ 46 :: b = T at *
          go_enter Tryd.func29, Tryd.ntmps29
          go_wp2_with (first
                        | ((go_at_call 52; (with_reducible refine (HC.out _).mono ?_); rintro e w1 ⟨x1, rfl, rfl, hb1⟩) <;> (have hle := Up.le hb1; (try simp only [World.size_alloc, World.size_setCell, World.size_drew, World.heap_drewN] at hle); clear hle))
                        | ((go_at_call 53; (with_reducible refine (HA.out _).mono ?_); rintro e w2 ⟨x2, rfl, rfl, hb2⟩) <;> (have hle := Up.le hb2; (try simp only [World.size_alloc, World.size_setCell, World.size_drew, World.heap_drewN] at hle); clear hle))
                        | ((go_at_call 51; (with_reducible refine (text_any n _ HN.out (HP.out.up (by (repeat (first | (with_reducible exact Up.refl _) | (with_reducible assumption) | (with_reducible refine Up.alloc ?_ _) | (with_reducible refine Up.drew ?_) | ((with_reducible refine Up.set ?_ ?_ _); rotate_left; focus (first | omega | (simp; done) | (simp; omega))) | (with_reducible refine Up.drewN ?_ _) | (with_reducible refine Up.call ?_ (by with_reducible assumption))))))).mono ?_); rintro e w3 ⟨x3, rfl, rfl, hb3⟩) <;> (have hle := Up.le hb3; (try simp only [World.size_alloc, World.size_setCell, World.size_drew, World.heap_drewN] at hle); clear hle)))
          all_goals go_ret2
          all_goals exact RetX.same (by (repeat (first | (with_reducible exact Up.refl _) | (with_reducible assumption) | (with_reducible refine Up.alloc ?_ _) | (with_reducible refine Up.drew ?_) | ((with_reducible refine Up.set ?_ ?_ _); rotate_left; focus (first | omega | (simp; done) | (simp; omega))) | (with_reducible refine Up.drewN ?_ _) | (with_reducible refine Up.call ?_ (by with_reducible assumption))))) rfl
      · have h : ∀ n, Lib.atoiAll (a ++ b) ≠ .ok n := fun n e => hw ⟨n, e⟩
        rw [parse_bad hd h]
        have HA := hid (fun W hE => atoi_bad (a ++ b) h hab W hE)
        clear h hd hw
        generalize a ++ 46 :: b = T at *
        go_enter Tryd.func29, Tryd.ntmps29
        go_wp2_with (first
                        | ((go_at_call 52; (with_reducible refine (HC.out _).mono ?_); rintro e w1 ⟨x1, rfl, rfl, hb1⟩) <;> (have hle := Up.le hb1; (try simp only [World.size_alloc, World.size_setCell, World.size_drew, World.heap_drewN] at hle); clear hle))
                        | ((go_at_call 53; (with_reducible refine (HA.out _ (HE.out.up (by (repeat (first | (with_reducible exact Up.refl _) | (with_reducible assumption) | (with_reducible refine Up.alloc ?_ _) | (with_reducible refine Up.drew ?_) | ((with_reducible refine Up.set ?_ ?_ _); rotate_left; focus (first | omega | (simp; done) | (simp; omega))) | (with_reducible refine Up.drewN ?_ _) | (with_reducible refine Up.call ?_ (by with_reducible assumption))))))).mono ?_); rintro e w2 ⟨x2, N2, rfl, hb2⟩) <;> (have hle := Up.le hb2; (try simp only [World.size_alloc, World.size_setCell, World.size_drew, World.heap_drewN] at hle); clear hle)))
        all_goals go_ret2
        all_goals exact RetX.same (by (repeat (first | (with_reducible exact Up.refl _) | (with_reducible assumption) | (with_reducible refine Up.alloc ?_ _) | (with_reducible refine Up.drew ?_) | ((with_reducible refine Up.set ?_ ?_ _); rotate_left; focus (first | omega | (simp; done) | (simp; omega))) | (with_reducible refine Up.drewN ?_ _) | (with_reducible refine Up.call ?_ (by with_reducible assumption))))) rfl
end Go.Proofs.YtopgjbjpmnlldaaDoor
