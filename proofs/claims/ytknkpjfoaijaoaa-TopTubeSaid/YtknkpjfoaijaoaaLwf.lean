/- TopTube: step by step in pieces a tube is within the tube of the whole, and each path is in both; what it never meets it never is in. No condition. -/
import Derived.Test.YtknkpjfoaijaoaaTop
import Derived.Test.YtknkpjfoaijaoaaTube
import Derived.Test.YtknkpjfoaijaoaaCoverb
import Derived.Test.YtknkpjfoaijaoaaSafe
import Derived.Test.YtknkpjfoaijaoaaFlowb
import Derived.Test.YtknkpjfoaijaoaaRowd
import Derived.Test.YtknkpjfoaijaoaaFacts

set_option linter.unusedVariables false
set_option linter.unusedSimpArgs false
namespace Go.Proofs.Ytknkpjfoaijaoaa
open Go.ChangeShapes Go.WideShapes Go.ChangeAt Go.RowKit Go.Joins Go.Deep

def okL : Except Nat (List (List Int)) → List (List Int)
  | .ok p => p
  | .error _ => []
def isT : Except Nat Bool → Bool
  | .ok v => v
  | .error _ => false
def errW {α : Type} : Except Nat α → Value
  | .ok _ => .nilIface
  | .error n => .iface 52 (.int .i64 n)
theorem boolR_two (r : Except Nat Bool) : boolR r = .tuple #[.bool (isT r), errW r] := by cases r <;> rfl
theorem pathU_any (A B C D : Option Addr) (s : Sy) (x : List Int) (push : List (List Int)) (c d e f : Nat) (w : World) (hY : RY w A B s) (hx : RdI w C x) (hp : RdII w D push) (hpl : push.length ≤ 9223372036854775807) {pl : List (List Int)} {pe : Value} (h1 : okL (pathF s x push) = pl) (h2 : errW (pathF s x push) = pe) :
    Calls Try.prog 7 #[.agg #[.slice A s.next.length c, .slice B s.push.length d], .slice C x.length e, .slice D push.length f] w (fun e w' => ∃ A c, e = .returned (.tuple #[.slice A pl.length c, pe]) ∧ RdII w' A pl ∧ Up w w') := by
  refine (path_any A B C D s x push c d e f w hY hx hp hpl).mono ?_
  rintro e w' ⟨r, v, hr, rfl, hv, hu⟩
  subst h1; subst h2
  rw [hr]
  cases r with
  | error n => rw [rlNE_error hv]; exact ⟨none, 0, rfl, RdR.nil _ _ _, hu⟩
  | ok p =>
    obtain ⟨A', c', rfl, h, -⟩ := rlNE_ok hv
    exact ⟨A', c', rfl, h, hu⟩
theorem hasU_any (A B : Option Addr) (b : List Sp) (x : List Int) (c d : Nat) (w : World) (ha : RdS w A b) (hb : RdI w B x) {hv : Bool} {he : Value} (h1 : isT (hasF b x) = hv) (h2 : errW (hasF b x) = he) :
    Calls Try.prog 8 #[.slice A b.length c, .slice B x.length d] w (fun e w' => e = .returned (.tuple #[.bool hv, he]) ∧ Up w w') := by
  refine (bhas_any A B b x c d w ha hb).mono ?_
  rintro e w' ⟨r, hr, rfl, hu⟩
  subst h1; subst h2
  rw [hr, boolR_two]
  exact ⟨rfl, hu⟩
theorem clearU_any (A B C D : Option Addr) (s : Sy) (b bad : List Sp) (n : Int) (c d e f : Nat) (w : World) (hY : RY w A B s) (hb : RdS w C b) (hd : RdS w D bad) {sv : Bool} {se : Value} (h1 : isT (clearF s b bad n) = sv) (h2 : errW (clearF s b bad n) = se) :
    Calls Try.prog 9 #[.agg #[.slice A s.next.length c, .slice B s.push.length d], .slice C b.length e, .slice D bad.length f, .int .i64 n] w (fun e w' => e = .returned (.tuple #[.bool sv, se]) ∧ Up w w') := by
  refine (clear_any A B C D s b bad n c d e f w hY hb hd).mono ?_
  rintro e w' ⟨r, hr, rfl, hu⟩
  subst h1; subst h2
  rw [hr, boolR_two]
  exact ⟨rfl, hu⟩
theorem tube_facts {s : Sy} {b bad : List Sp} {x : List Int} {push : List (List Int)} {l : List (List Sp)} (hl : runF s b push.length = .ok l) :
    ∃ (F : Bool) (pl : List (List Int)) (pe : Value) (hv : Bool) (he : Value) (sv : Bool) (se : Value), okL (pathF s x push) = pl ∧ errW (pathF s x push) = pe ∧ isT (hasF b x) = hv ∧ errW (hasF b x) = he ∧ isT (clearF s b bad push.length) = sv ∧ errW (clearF s b bad push.length) = se ∧
      (((∃ n : Nat, pe = .iface 52 (.int .i64 n)) ∧ F = false) ∨ (pe = .nilIface ∧ (∃ n : Nat, he = .iface 52 (.int .i64 n)) ∧ F = false) ∨ (pe = .nilIface ∧ he = .nilIface ∧ hv = false ∧ F = false) ∨ (pe = .nilIface ∧ he = .nilIface ∧ hv = true ∧ F = true)) ∧
      (F = true → pathF s x push = .ok pl ∧ hasF b x = .ok true) ∧
      ((∃ n : Nat, se = .iface 52 (.int .i64 n)) ∨ (se = .nilIface ∧ (F = true → ∀ k, k < pl.length → ∃ t, hasF bad (pl[k]?.getD []) = .ok t ∧ (sv = true → t = false)))) := by
  have hS : ∀ (F : Bool) (pl : List (List Int)), (F = true → pathF s x push = .ok pl ∧ hasF b x = .ok true) → ((∃ n : Nat, errW (clearF s b bad push.length) = .iface 52 (.int .i64 n)) ∨ (errW (clearF s b bad push.length) = .nilIface ∧ (F = true → ∀ k, k < pl.length → ∃ t, hasF bad (pl[k]?.getD []) = .ok t ∧ (isT (clearF s b bad push.length) = true → t = false)))) := by
    intro F pl hF
    cases hc : clearF s b bad push.length with
    | error e => exact .inl ⟨e, rfl⟩
    | ok v => exact .inr ⟨rfl, fun h k hk => tube_bad hl (hF h).1 (hF h).2 hc hk⟩
  cases hp : pathF s x push with
  | error e => exact ⟨false, [], _, _, _, _, _, rfl, rfl, rfl, rfl, rfl, rfl, .inl ⟨⟨e, rfl⟩, rfl⟩, fun h => (by cases h), hS false [] (fun h => by cases h)⟩
  | ok p =>
    cases hh : hasF b x with
    | error e => exact ⟨false, p, _, _, _, _, _, rfl, rfl, rfl, rfl, rfl, rfl, .inr (.inl ⟨rfl, ⟨e, rfl⟩, rfl⟩), fun h => (by cases h), hS false p (fun h => by cases h)⟩
    | ok v =>
      cases v with
      | false => exact ⟨false, p, _, _, _, _, _, rfl, rfl, rfl, rfl, rfl, rfl, .inr (.inr (.inl ⟨rfl, rfl, rfl, rfl⟩)), fun h => (by cases h), hS false p (fun h => by cases h)⟩
      | true => exact ⟨true, p, _, _, _, _, _, rfl, rfl, rfl, rfl, rfl, rfl, .inr (.inr (.inr ⟨rfl, rfl, rfl, rfl⟩)), fun _ => ⟨rfl, rfl⟩, hS true p (fun _ => ⟨hp, hh⟩)⟩
set_option maxRecDepth 100000 in
set_option maxHeartbeats 40000000 in
theorem tt_main (As Bs : Option Addr) (s : Sy) (cs es : Nat) (Ab : Option Addr) (b : List Sp) (cb : Nat) (dp : Int) (Ax : Option Addr) (x : List Int) (cx : Nat) (Aq : Option Addr) (push : List (List Int)) (cq : Nat) (Ad : Option Addr) (bad : List Sp) (cd : Nat) (w : World) (rs : RY w As Bs s) (rb : RdS w Ab b) (rx : RdI w Ax x) (rq : RdII w Aq push) (rd : RdS w Ad bad)
    (hpl : push.length ≤ 9223372036854775807) {l : List (List Sp)} (hl : runF s b push.length = .ok l) (h0 : 0 ≤ dp) (h3 : dp ≤ 3) :
    Calls Try.prog 3 #[.agg #[.slice As s.next.length cs, .slice Bs s.push.length es], .slice Ab b.length cb, .int .i64 dp, .slice Ax x.length cx, .slice Aq push.length cq, .slice Ad bad.length cd] w (LawEnd w) := by
  have Rs := hid rs; have Rb := hid rb; have Rx := hid rx; have Rq := hid rq; have Rd := hid rd; have Hpl := hid hpl
  obtain ⟨F, pl, pe, hv, he, sv, se, e1, e2, e3, e4, e5, e6, hcomb, hfol, hbad⟩ := tube_facts (bad := bad) (x := x) hl
  have E1 := hid e1; have E2 := hid e2; have E3 := hid e3; have E4 := hid e4; have E5 := hid e5; have E6 := hid e6
  have Hcomb := hid hcomb; have Hfol := hid hfol; have Hbad := hid hbad
  have HL := hid hl
  have dd1 : decide (dp < 0) = false := decide_eq_false (by omega)
  have dd2 : decide (3 < dp) = false := decide_eq_false (by omega)
  have H0 := hid h0; have H3 := hid h3
  have Hll := hid (show l.length = push.length + 1 ∧ push.length ≤ 20 by
    obtain ⟨-, k2, -, k4⟩ := run_parts hl
    have := run_len _ b l k4
    omega)
  have Hst := hid (show Parts b (l[0]?.getD []) ∧ (F = true → Inside b (pl[0]?.getD [])) by
    obtain ⟨-, -, k3, k4⟩ := run_parts hl
    obtain ⟨t, rfl⟩ := run_head _ b l k4
    refine ⟨parts_refl (ready_good k3).2.1.spans, fun h => ?_⟩
    obtain ⟨g1, g2⟩ := hfol h
    obtain ⟨-, -, -, g3⟩ := path_parts g1
    obtain ⟨⟨u, rfl⟩, -⟩ := path_step push x pl g3
    exact ((hasF_ok g2).2.2).1 rfl)
  clear rs rb rx rq rd hpl e1 e2 e3 e4 e5 e6 hcomb hfol hbad hl h0 h3
  go_enter Try.func3, Try.ntmps3
  go_upto_region 9 with (first
    | ((go_at_call 5; (with_reducible refine (top_any _).mono ?_); rintro e w1 ⟨x1, rfl, rfl, hb1⟩) <;> (have hle := Up.le hb1; (try simp only [World.size_alloc, World.size_setCell, World.size_drew, World.heap_drewN] at hle); (try (have _ : w.heap.size < w1.heap.size := (by omega); (try (apply fk hb1 (w.heap.size); (focus (go_simp; rfl)); (focus (intro o; go_simp)); intro z; (try clear f_0); have f_0 := z; clear z)); (try (apply ck hb1 (w.heap.size) 0; (focus (go_simp; rfl)); intro z; (try clear c_0_0); have c_0_0 := z; clear z; (try (apply ck hb1 (w.heap.size) 1; (focus (go_simp; rfl)); intro z; (try clear c_0_1); have c_0_1 := z; clear z)))))); clear hle; (try (apply old_keep (w0 := w) (w := w1); (focus ((repeat (first | (with_reducible exact Up.refl _) | (with_reducible assumption) | (with_reducible refine Up.alloc ?_ _) | (with_reducible refine Up.drew ?_) | ((with_reducible refine Up.set ?_ ?_ _); rotate_left; focus (first | omega | (simp; done) | (simp; omega))) | (with_reducible refine Up.drewN ?_ _) | (with_reducible refine Up.call ?_ (by with_reducible assumption)))))); intro y z; (try clear hUp); (try clear hOld); have hUp := y; have hOld := z; clear y z))))
    | ((go_at_call 6; (with_reducible refine (run_any _ _ _ s b push.length _ _ _ _ (Rs.out.up (by (repeat (first | (with_reducible exact Up.refl _) | (with_reducible assumption) | (with_reducible refine Up.alloc ?_ _) | (with_reducible refine Up.drew ?_) | ((with_reducible refine Up.set ?_ ?_ _); rotate_left; focus (first | omega | (simp; done) | (simp; omega))) | (with_reducible refine Up.drewN ?_ _) | (with_reducible refine Up.call ?_ (by with_reducible assumption)))))) (Rb.out.up (by (repeat (first | (with_reducible exact Up.refl _) | (with_reducible assumption) | (with_reducible refine Up.alloc ?_ _) | (with_reducible refine Up.drew ?_) | ((with_reducible refine Up.set ?_ ?_ _); rotate_left; focus (first | omega | (simp; done) | (simp; omega))) | (with_reducible refine Up.drewN ?_ _) | (with_reducible refine Up.call ?_ (by with_reducible assumption))))))).mono ?_); rintro e w2 ⟨x2, v2, hx2, rfl, hv2, hb2⟩ <;> (rw [HL.out] at hx2; subst hx2; obtain ⟨A2, c2, rfl, hrd2, hc2⟩ := rlNE_ok hv2; have Hrd2 := hid hrd2; clear hv2 hrd2)) <;> (have hle := Up.le hb2; (try simp only [World.size_alloc, World.size_setCell, World.size_drew, World.heap_drewN] at hle); (try (have _ : w.heap.size < w2.heap.size := (by omega); (try (apply fk hb2 (w.heap.size); (focus (go_simp; rfl)); (focus (intro o; go_simp)); intro z; (try clear f_0); have f_0 := z; clear z)); (try (apply ck hb2 (w.heap.size) 0; (focus (go_simp; rfl)); intro z; (try clear c_0_0); have c_0_0 := z; clear z; (try (apply ck hb2 (w.heap.size) 1; (focus (go_simp; rfl)); intro z; (try clear c_0_1); have c_0_1 := z; clear z)))))); (try (have _ : w1.heap.size < w2.heap.size := (by omega); (try (apply fk hb2 (w1.heap.size); (focus (go_simp; rfl)); (focus (intro o; go_simp)); intro z; (try clear f1_0); have f1_0 := z; clear z)); (try (apply ck hb2 (w1.heap.size) 0; (focus (go_simp; rfl)); intro z; (try clear c1_0_0); have c1_0_0 := z; clear z; (try (apply ck hb2 (w1.heap.size) 1; (focus (go_simp; rfl)); intro z; (try clear c1_0_1); have c1_0_1 := z; clear z)))); (try (have _ : w1.heap.size + 1 < w2.heap.size := (by omega); (try (apply fk hb2 (w1.heap.size + 1); (focus (go_simp; rfl)); (focus (intro o; go_simp)); intro z; (try clear f1_1); have f1_1 := z; clear z)); (try (apply ck hb2 (w1.heap.size + 1) 0; (focus (go_simp; rfl)); intro z; (try clear c1_1_0); have c1_1_0 := z; clear z; (try (apply ck hb2 (w1.heap.size + 1) 1; (focus (go_simp; rfl)); intro z; (try clear c1_1_1); have c1_1_1 := z; clear z)))))))); clear hle; (try (apply old_keep (w0 := w) (w := w2); (focus ((repeat (first | (with_reducible exact Up.refl _) | (with_reducible assumption) | (with_reducible refine Up.alloc ?_ _) | (with_reducible refine Up.drew ?_) | ((with_reducible refine Up.set ?_ ?_ _); rotate_left; focus (first | omega | (simp; done) | (simp; omega))) | (with_reducible refine Up.drewN ?_ _) | (with_reducible refine Up.call ?_ (by with_reducible assumption)))))); intro y z; (try clear hUp); (try clear hOld); have hUp := y; have hOld := z; clear y z))))
    | ((go_at_call 7; (with_reducible refine (pathU_any _ _ _ _ s x push _ _ _ _ _ (Rs.out.up (by (repeat (first | (with_reducible exact Up.refl _) | (with_reducible assumption) | (with_reducible refine Up.alloc ?_ _) | (with_reducible refine Up.drew ?_) | ((with_reducible refine Up.set ?_ ?_ _); rotate_left; focus (first | omega | (simp; done) | (simp; omega))) | (with_reducible refine Up.drewN ?_ _) | (with_reducible refine Up.call ?_ (by with_reducible assumption)))))) (Rx.out.up (by (repeat (first | (with_reducible exact Up.refl _) | (with_reducible assumption) | (with_reducible refine Up.alloc ?_ _) | (with_reducible refine Up.drew ?_) | ((with_reducible refine Up.set ?_ ?_ _); rotate_left; focus (first | omega | (simp; done) | (simp; omega))) | (with_reducible refine Up.drewN ?_ _) | (with_reducible refine Up.call ?_ (by with_reducible assumption)))))) (RdII.up Rq.out (by (repeat (first | (with_reducible exact Up.refl _) | (with_reducible assumption) | (with_reducible refine Up.alloc ?_ _) | (with_reducible refine Up.drew ?_) | ((with_reducible refine Up.set ?_ ?_ _); rotate_left; focus (first | omega | (simp; done) | (simp; omega))) | (with_reducible refine Up.drewN ?_ _) | (with_reducible refine Up.call ?_ (by with_reducible assumption)))))) Hpl.out E1.out E2.out).mono ?_); rintro e w3 ⟨A3, c3, rfl, hrd3, hb3⟩ <;> (have Hrd3 := hid hrd3; clear hrd3)) <;> (have hle := Up.le hb3; (try simp only [World.size_alloc, World.size_setCell, World.size_drew, World.heap_drewN] at hle); (try (have _ : w.heap.size < w3.heap.size := (by omega); (try (apply fk hb3 (w.heap.size); (focus (go_simp; rfl)); (focus (intro o; go_simp)); intro z; (try clear f_0); have f_0 := z; clear z)); (try (apply ck hb3 (w.heap.size) 0; (focus (go_simp; rfl)); intro z; (try clear c_0_0); have c_0_0 := z; clear z; (try (apply ck hb3 (w.heap.size) 1; (focus (go_simp; rfl)); intro z; (try clear c_0_1); have c_0_1 := z; clear z)))))); (try (have _ : w1.heap.size < w3.heap.size := (by omega); (try (apply fk hb3 (w1.heap.size); (focus (go_simp; rfl)); (focus (intro o; go_simp)); intro z; (try clear f1_0); have f1_0 := z; clear z)); (try (apply ck hb3 (w1.heap.size) 0; (focus (go_simp; rfl)); intro z; (try clear c1_0_0); have c1_0_0 := z; clear z; (try (apply ck hb3 (w1.heap.size) 1; (focus (go_simp; rfl)); intro z; (try clear c1_0_1); have c1_0_1 := z; clear z)))); (try (have _ : w1.heap.size + 1 < w3.heap.size := (by omega); (try (apply fk hb3 (w1.heap.size + 1); (focus (go_simp; rfl)); (focus (intro o; go_simp)); intro z; (try clear f1_1); have f1_1 := z; clear z)); (try (apply ck hb3 (w1.heap.size + 1) 0; (focus (go_simp; rfl)); intro z; (try clear c1_1_0); have c1_1_0 := z; clear z; (try (apply ck hb3 (w1.heap.size + 1) 1; (focus (go_simp; rfl)); intro z; (try clear c1_1_1); have c1_1_1 := z; clear z)))))))); (try (have _ : w2.heap.size < w3.heap.size := (by omega); (try (apply fk hb3 (w2.heap.size); (focus (go_simp; rfl)); (focus (intro o; go_simp)); intro z; (try clear f2_0); have f2_0 := z; clear z)); (try (apply ck hb3 (w2.heap.size) 0; (focus (go_simp; rfl)); intro z; (try clear c2_0_0); have c2_0_0 := z; clear z; (try (apply ck hb3 (w2.heap.size) 1; (focus (go_simp; rfl)); intro z; (try clear c2_0_1); have c2_0_1 := z; clear z)))); (try (have _ : w2.heap.size + 1 < w3.heap.size := (by omega); (try (apply fk hb3 (w2.heap.size + 1); (focus (go_simp; rfl)); (focus (intro o; go_simp)); intro z; (try clear f2_1); have f2_1 := z; clear z)); (try (apply ck hb3 (w2.heap.size + 1) 0; (focus (go_simp; rfl)); intro z; (try clear c2_1_0); have c2_1_0 := z; clear z; (try (apply ck hb3 (w2.heap.size + 1) 1; (focus (go_simp; rfl)); intro z; (try clear c2_1_1); have c2_1_1 := z; clear z)))))))); clear hle; (try (apply old_keep (w0 := w) (w := w3); (focus ((repeat (first | (with_reducible exact Up.refl _) | (with_reducible assumption) | (with_reducible refine Up.alloc ?_ _) | (with_reducible refine Up.drew ?_) | ((with_reducible refine Up.set ?_ ?_ _); rotate_left; focus (first | omega | (simp; done) | (simp; omega))) | (with_reducible refine Up.drewN ?_ _) | (with_reducible refine Up.call ?_ (by with_reducible assumption)))))); intro y z; (try clear hUp); (try clear hOld); have hUp := y; have hOld := z; clear y z))))
    | ((go_at_call 8; (with_reducible refine (hasU_any _ _ b x _ _ _ (Rb.out.up (by (repeat (first | (with_reducible exact Up.refl _) | (with_reducible assumption) | (with_reducible refine Up.alloc ?_ _) | (with_reducible refine Up.drew ?_) | ((with_reducible refine Up.set ?_ ?_ _); rotate_left; focus (first | omega | (simp; done) | (simp; omega))) | (with_reducible refine Up.drewN ?_ _) | (with_reducible refine Up.call ?_ (by with_reducible assumption)))))) (Rx.out.up (by (repeat (first | (with_reducible exact Up.refl _) | (with_reducible assumption) | (with_reducible refine Up.alloc ?_ _) | (with_reducible refine Up.drew ?_) | ((with_reducible refine Up.set ?_ ?_ _); rotate_left; focus (first | omega | (simp; done) | (simp; omega))) | (with_reducible refine Up.drewN ?_ _) | (with_reducible refine Up.call ?_ (by with_reducible assumption)))))) E3.out E4.out).mono ?_); rintro e w4 ⟨rfl, hb4⟩) <;> (have hle := Up.le hb4; (try simp only [World.size_alloc, World.size_setCell, World.size_drew, World.heap_drewN] at hle); (try (have _ : w.heap.size < w4.heap.size := (by omega); (try (apply fk hb4 (w.heap.size); (focus (go_simp; rfl)); (focus (intro o; go_simp)); intro z; (try clear f_0); have f_0 := z; clear z)); (try (apply ck hb4 (w.heap.size) 0; (focus (go_simp; rfl)); intro z; (try clear c_0_0); have c_0_0 := z; clear z; (try (apply ck hb4 (w.heap.size) 1; (focus (go_simp; rfl)); intro z; (try clear c_0_1); have c_0_1 := z; clear z)))))); (try (have _ : w1.heap.size < w4.heap.size := (by omega); (try (apply fk hb4 (w1.heap.size); (focus (go_simp; rfl)); (focus (intro o; go_simp)); intro z; (try clear f1_0); have f1_0 := z; clear z)); (try (apply ck hb4 (w1.heap.size) 0; (focus (go_simp; rfl)); intro z; (try clear c1_0_0); have c1_0_0 := z; clear z; (try (apply ck hb4 (w1.heap.size) 1; (focus (go_simp; rfl)); intro z; (try clear c1_0_1); have c1_0_1 := z; clear z)))); (try (have _ : w1.heap.size + 1 < w4.heap.size := (by omega); (try (apply fk hb4 (w1.heap.size + 1); (focus (go_simp; rfl)); (focus (intro o; go_simp)); intro z; (try clear f1_1); have f1_1 := z; clear z)); (try (apply ck hb4 (w1.heap.size + 1) 0; (focus (go_simp; rfl)); intro z; (try clear c1_1_0); have c1_1_0 := z; clear z; (try (apply ck hb4 (w1.heap.size + 1) 1; (focus (go_simp; rfl)); intro z; (try clear c1_1_1); have c1_1_1 := z; clear z)))))))); (try (have _ : w2.heap.size < w4.heap.size := (by omega); (try (apply fk hb4 (w2.heap.size); (focus (go_simp; rfl)); (focus (intro o; go_simp)); intro z; (try clear f2_0); have f2_0 := z; clear z)); (try (apply ck hb4 (w2.heap.size) 0; (focus (go_simp; rfl)); intro z; (try clear c2_0_0); have c2_0_0 := z; clear z; (try (apply ck hb4 (w2.heap.size) 1; (focus (go_simp; rfl)); intro z; (try clear c2_0_1); have c2_0_1 := z; clear z)))); (try (have _ : w2.heap.size + 1 < w4.heap.size := (by omega); (try (apply fk hb4 (w2.heap.size + 1); (focus (go_simp; rfl)); (focus (intro o; go_simp)); intro z; (try clear f2_1); have f2_1 := z; clear z)); (try (apply ck hb4 (w2.heap.size + 1) 0; (focus (go_simp; rfl)); intro z; (try clear c2_1_0); have c2_1_0 := z; clear z; (try (apply ck hb4 (w2.heap.size + 1) 1; (focus (go_simp; rfl)); intro z; (try clear c2_1_1); have c2_1_1 := z; clear z)))))))); (try (have _ : w3.heap.size < w4.heap.size := (by omega); (try (apply fk hb4 (w3.heap.size); (focus (go_simp; rfl)); (focus (intro o; go_simp)); intro z; (try clear f3_0); have f3_0 := z; clear z)); (try (apply ck hb4 (w3.heap.size) 0; (focus (go_simp; rfl)); intro z; (try clear c3_0_0); have c3_0_0 := z; clear z; (try (apply ck hb4 (w3.heap.size) 1; (focus (go_simp; rfl)); intro z; (try clear c3_0_1); have c3_0_1 := z; clear z)))); (try (have _ : w3.heap.size + 1 < w4.heap.size := (by omega); (try (apply fk hb4 (w3.heap.size + 1); (focus (go_simp; rfl)); (focus (intro o; go_simp)); intro z; (try clear f3_1); have f3_1 := z; clear z)); (try (apply ck hb4 (w3.heap.size + 1) 0; (focus (go_simp; rfl)); intro z; (try clear c3_1_0); have c3_1_0 := z; clear z; (try (apply ck hb4 (w3.heap.size + 1) 1; (focus (go_simp; rfl)); intro z; (try clear c3_1_1); have c3_1_1 := z; clear z)))))))); clear hle; (try (apply old_keep (w0 := w) (w := w4); (focus ((repeat (first | (with_reducible exact Up.refl _) | (with_reducible assumption) | (with_reducible refine Up.alloc ?_ _) | (with_reducible refine Up.drew ?_) | ((with_reducible refine Up.set ?_ ?_ _); rotate_left; focus (first | omega | (simp; done) | (simp; omega))) | (with_reducible refine Up.drewN ?_ _) | (with_reducible refine Up.call ?_ (by with_reducible assumption)))))); intro y z; (try clear hUp); (try clear hOld); have hUp := y; have hOld := z; clear y z)))))
  have HU4 := hid (show Up w w4 by (repeat (first | (with_reducible exact Up.refl _) | (with_reducible assumption) | (with_reducible refine Up.alloc ?_ _) | (with_reducible refine Up.drew ?_) | ((with_reducible refine Up.set ?_ ?_ _); rotate_left; focus (first | omega | (simp; done) | (simp; omega))) | (with_reducible refine Up.drewN ?_ _) | (with_reducible refine Up.call ?_ (by with_reducible assumption)))))
  have HU24 := hid (show Up w2 w4 by clear hUp; (repeat (first | (with_reducible exact Up.refl _) | (with_reducible assumption) | (with_reducible refine Up.alloc ?_ _) | (with_reducible refine Up.drew ?_) | ((with_reducible refine Up.set ?_ ?_ _); rotate_left; focus (first | omega | (simp; done) | (simp; omega))) | (with_reducible refine Up.drewN ?_ _) | (with_reducible refine Up.call ?_ (by with_reducible assumption)))))
  have HU34 := hid (show Up w3 w4 by clear hUp; (repeat (first | (with_reducible exact Up.refl _) | (with_reducible assumption) | (with_reducible refine Up.alloc ?_ _) | (with_reducible refine Up.drew ?_) | ((with_reducible refine Up.set ?_ ?_ _); rotate_left; focus (first | omega | (simp; done) | (simp; omega))) | (with_reducible refine Up.drewN ?_ _) | (with_reducible refine Up.call ?_ (by with_reducible assumption)))))
  have C0 := hid (show Cf w4 w.heap.size 0 (.slice As s.next.length cs) from ⟨by go_simp, by go_simp⟩)
  have C1 := hid (show Cf w4 w.heap.size 1 (.slice Bs s.push.length es) from ⟨by go_simp, by go_simp⟩)
  go_cut [19] (fun s19 wx => s19 = .bool F ∧ Up w4 wx ∧ Cf wx w.heap.size 0 (.slice As s.next.length cs) ∧ Cf wx w.heap.size 1 (.slice Bs s.push.length es))
  case first =>
    rcases Hcomb.out with ⟨⟨n, rfl⟩, rfl⟩ | ⟨rfl, ⟨n, rfl⟩, rfl⟩ | ⟨rfl, rfl, rfl, rfl⟩ | ⟨rfl, rfl, rfl, rfl⟩
    all_goals
      go_wp2
      go_meet
      exact ⟨rfl, Up.refl _, C0.out, C1.out⟩
  case rest =>
  obtain ⟨rfl, hUc, ⟨c0, g0⟩, ⟨c1, g1⟩⟩ := hcut
  have HUc := hid (HU4.out.call hUc)
  have HUc2 := hid (HU24.out.call hUc)
  have HUc3 := hid (HU34.out.call hUc)
  have l0 := World.block_lt_of_cell? _ _ c0
  dsimp only at l0
  clear HU4 HU24 HU34 C0 C1 hUc hUp hOld
  go_wp2_with (first
                        | ((go_at_call 9; (with_reducible refine (clearU_any _ _ _ _ s b bad push.length _ _ _ _ _ (Rs.out.up (HUc.out.call (by (repeat (first | (with_reducible exact Up.refl _) | (with_reducible assumption) | (with_reducible refine Up.alloc ?_ _) | (with_reducible refine Up.drew ?_) | ((with_reducible refine Up.set ?_ ?_ _); rotate_left; focus (first | omega | (simp; done) | (simp; omega))) | (with_reducible refine Up.drewN ?_ _) | (with_reducible refine Up.call ?_ (by with_reducible assumption))))))) (Rb.out.up (HUc.out.call (by (repeat (first | (with_reducible exact Up.refl _) | (with_reducible assumption) | (with_reducible refine Up.alloc ?_ _) | (with_reducible refine Up.drew ?_) | ((with_reducible refine Up.set ?_ ?_ _); rotate_left; focus (first | omega | (simp; done) | (simp; omega))) | (with_reducible refine Up.drewN ?_ _) | (with_reducible refine Up.call ?_ (by with_reducible assumption))))))) (Rd.out.up (HUc.out.call (by (repeat (first | (with_reducible exact Up.refl _) | (with_reducible assumption) | (with_reducible refine Up.alloc ?_ _) | (with_reducible refine Up.drew ?_) | ((with_reducible refine Up.set ?_ ?_ _); rotate_left; focus (first | omega | (simp; done) | (simp; omega))) | (with_reducible refine Up.drewN ?_ _) | (with_reducible refine Up.call ?_ (by with_reducible assumption))))))) E5.out E6.out).mono ?_); rintro e w5 ⟨rfl, hb5⟩)))
  have HU5 := hid (show Up wc w5 by (repeat (first | (with_reducible exact Up.refl _) | (with_reducible assumption) | (with_reducible refine Up.alloc ?_ _) | (with_reducible refine Up.drew ?_) | ((with_reducible refine Up.set ?_ ?_ _); rotate_left; focus (first | omega | (simp; done) | (simp; omega))) | (with_reducible refine Up.drewN ?_ _) | (with_reducible refine Up.call ?_ (by with_reducible assumption)))))
  have D0 := Cf.up (show Cf wc w.heap.size 0 (.slice As s.next.length cs) from ⟨c0, g0⟩) HU5.out
  have D1 := Cf.up (show Cf wc w.heap.size 1 (.slice Bs s.push.length es) from ⟨c1, g1⟩) HU5.out
  have HUw5 := hid (HUc.out.call HU5.out)
  have Hl5 := hid (RdB.up Hrd2.out (HUc2.out.call HU5.out))
  have Hp5 := hid (RdII.up Hrd3.out (HUc3.out.call HU5.out))
  have Rs5 := hid (Rs.out.up HUw5.out); have Rd5 := hid (Rd.out.up HUw5.out)
  clear c0 g0 c1 g1 l0
  go_loopw [15, 20, 23] (fun ev v i wr => ∃ (k : Nat) (c : List Sp) (Ac : Option Addr) (cc : Nat), k ≤ push.length ∧ v = .slice Ac c.length cc ∧ i = .int .i64 k ∧ Hid (Parts c (l[k]?.getD [])) ∧ Hid (F = true → Inside c (pl[k]?.getD [])) ∧ Hid (RdS wr Ac c) ∧ Up w5 wr ∧ Cf wr w.heap.size 0 (.slice As s.next.length cs) ∧ Cf wr w.heap.size 1 (.slice Bs s.push.length es)) (fun _ _ i _ => push.length - (intOf i).toNat)
  case atStart => exact ⟨0, b, Ab, cb, by omega, rfl, rfl, Hst.out.1, Hst.out.2, Rb.out.up HUw5.out, Up.refl _, D0, D1⟩
  case round =>
    clear D0 D1
    obtain ⟨k, c, Ac, cc0, hk, rfl, rfl, Hcp, Hci, Hrc, hU, ⟨c0, g0⟩, ⟨c1, g1⟩⟩ := hrel
    have gr := (bcell hU).1
    have hle := hU.le
    have l0 := World.block_lt_of_cell? wr _ c0
    dsimp only at l0
    by_cases hlt : k < push.length
    · obtain ⟨z, hz, hzp, hzw, hzi⟩ := tube_step HL.out (by have := Hll.out; omega : k + 1 < l.length) Hcp.out H0.out H3.out
      obtain ⟨b1, o1, rfl, lb, cc⟩ := (Hl5.out).at (by have := Hll.out; omega)
      obtain ⟨A8, c8, r1, r2, r3⟩ := cc (k + 1) (by have := Hll.out; omega)
      have j1 := (gr _ _ lb).trans r1
      have l1 := World.block_lt_of_cell? _ _ j1
      dsimp only at l1
      have Hr3 := hid (r3.up hU)
      have Hlt := hid hlt
      have Hz := hid hz; have Hzp := hid hzp; have Hzw := hid hzw; have Hzi := hid hzi
      have hdk : decide ((k : Int) < (push.length : Int)) = true := by simp; omega
      have hk0 : (0 : Int) ≤ (k : Int) := by omega
      have hk9 : (k : Int) < 20 := by have := Hll.out; omega
      have hk6 : 0 ≤ (k : Int) + 1 := by omega
      have hk8 : (k : Int) + 1 < (l.length : Int) := by have := Hll.out; omega
      generalize hlk : l[k + 1]?.getD [] = lk at *
      have Hlk := hid hlk
      clear hlk
      have HUr := hid (HUw5.out.call hU)
      clear hlt cc r1 r2 r3 hz hzp hzw hzi
      have hFc : F = false ∨ F = true := by cases F <;> simp
      rcases hFc with rfl | rfl
      · clear gr
        go_wp2_with (first
                        | ((go_at_call 10; (with_reducible refine (cstep_any _ _ _ s c dp _ _ _ _ (Rs5.out.up (hU.call (by (repeat (first | (with_reducible exact Up.refl _) | (with_reducible assumption) | (with_reducible refine Up.alloc ?_ _) | (with_reducible refine Up.drew ?_) | ((with_reducible refine Up.set ?_ ?_ _); rotate_left; focus (first | omega | (simp; done) | (simp; omega))) | (with_reducible refine Up.drewN ?_ _) | (with_reducible refine Up.call ?_ (by with_reducible assumption))))))) (Hrc.out.up (by (repeat (first | (with_reducible exact Up.refl _) | (with_reducible assumption) | (with_reducible refine Up.alloc ?_ _) | (with_reducible refine Up.drew ?_) | ((with_reducible refine Up.set ?_ ?_ _); rotate_left; focus (first | omega | (simp; done) | (simp; omega))) | (with_reducible refine Up.drewN ?_ _) | (with_reducible refine Up.call ?_ (by with_reducible assumption))))))).mono ?_); rintro e w6 ⟨x6, v6, hx6, rfl, hv6, hb6⟩); rw [Hz.out] at hx6; subst hx6; obtain ⟨A6, c6, rfl, hrd6, hc6⟩ := slE_ok hv6; have Hrd6 := hid hrd6; clear hv6 hrd6; obtain ⟨hd6, hf6⟩ := bcell hb6)
                        | ((go_at_call 11; (with_reducible refine (within_any _ _ z lk _ _ _ (Hrd6.out.up (by (repeat (first | (with_reducible exact Up.refl _) | (with_reducible assumption) | (with_reducible refine Up.alloc ?_ _) | (with_reducible refine Up.drew ?_) | ((with_reducible refine Up.set ?_ ?_ _); rotate_left; focus (first | omega | (simp; done) | (simp; omega))) | (with_reducible refine Up.drewN ?_ _) | (with_reducible refine Up.call ?_ (by with_reducible assumption)))))) (Hr3.out.up (by (repeat (first | (with_reducible exact Up.refl _) | (with_reducible assumption) | (with_reducible refine Up.alloc ?_ _) | (with_reducible refine Up.drew ?_) | ((with_reducible refine Up.set ?_ ?_ _); rotate_left; focus (first | omega | (simp; done) | (simp; omega))) | (with_reducible refine Up.drewN ?_ _) | (with_reducible refine Up.call ?_ (by with_reducible assumption))))))).mono ?_); rintro e w7 ⟨x7, hx7, rfl, hb7⟩); rw [Hzw.out] at hx7; subst hx7; obtain ⟨hd7, hf7⟩ := bcell hb7))
        have hU7 : Up wr w7 := by (repeat (first | (with_reducible exact Up.refl _) | (with_reducible assumption) | (with_reducible refine Up.alloc ?_ _) | (with_reducible refine Up.drew ?_) | ((with_reducible refine Up.set ?_ ?_ _); rotate_left; focus (first | omega | (simp; done) | (simp; omega))) | (with_reducible refine Up.drewN ?_ _) | (with_reducible refine Up.call ?_ (by with_reducible assumption))))
        have Hrd7 := hid (Hrd6.out.up hb7)
        go_roundw
        case rel => exact ⟨k + 1, z, A6, c6, by have := Hlt.out; omega, rfl, by go_num, (by rw [Hlk.out]; exact Hzp.out), fun h => (by cases h), Hrd7.out, hU.call hU7, Cf.up ⟨c0, g0⟩ hU7, Cf.up ⟨c1, g1⟩ hU7⟩
        case measure => have := Hlt.out; simp [intOf]; omega
      · obtain ⟨g1', g2'⟩ := Hfol.out rfl
        obtain ⟨-, -, -, g3'⟩ := path_parts g1'
        have hpl' := path_len push x pl g3'
        obtain ⟨b2, o2, rfl, lb2, cc2⟩ := (Hp5.out).at (by omega)
        obtain ⟨A9, c9, s1, s2, s3⟩ := cc2 (k + 1) (by have := Hlt.out; omega)
        have j2 := (gr _ _ lb2).trans s1
        have l2 := World.block_lt_of_cell? _ _ j2
        dsimp only at l2
        have Hs3 := hid (RdI.up s3 hU)
        have hstep := (path_step push x pl g3').2 k (by have := Hlt.out; omega)
        obtain ⟨hin1, hin2⟩ := Hzi.out _ _ _ (Hci.out rfl) hstep
        have hk7 : (k : Int) + 1 < (pl.length : Int) := by have := Hlt.out; omega
        have hbd : (∃ n : Nat, se = .iface 52 (.int .i64 n)) ∨ (se = .nilIface ∧ ∃ t, Hid (hasF bad (pl[k + 1]?.getD []) = .ok t) ∧ (t = false ∨ sv = false)) := by
          rcases Hbad.out with h | ⟨h1, h2⟩
          · exact .inl h
          · obtain ⟨t, ht, hsv⟩ := h2 rfl (k + 1) (by have := Hlt.out; omega)
            refine .inr ⟨h1, t, ht, ?_⟩
            cases hs : sv with
            | false => exact .inr rfl
            | true => exact .inl (hsv hs)
        have Hin1 := hid hin1; have Hin2 := hid hin2
        generalize hpk : pl[k + 1]?.getD [] = pk at *
        have Hpk := hid hpk
        clear hpk
        clear gr cc2 s1 s2 s3 hstep hin1 hin2 g1' g2' g3' hpl'
        rcases hbd with ⟨n, rfl⟩ | ⟨rfl, t, Ht, rfl | rfl⟩
        · go_wp2_with (first
                        | ((go_at_call 10; (with_reducible refine (cstep_any _ _ _ s c dp _ _ _ _ (Rs5.out.up (hU.call (by (repeat (first | (with_reducible exact Up.refl _) | (with_reducible assumption) | (with_reducible refine Up.alloc ?_ _) | (with_reducible refine Up.drew ?_) | ((with_reducible refine Up.set ?_ ?_ _); rotate_left; focus (first | omega | (simp; done) | (simp; omega))) | (with_reducible refine Up.drewN ?_ _) | (with_reducible refine Up.call ?_ (by with_reducible assumption))))))) (Hrc.out.up (by (repeat (first | (with_reducible exact Up.refl _) | (with_reducible assumption) | (with_reducible refine Up.alloc ?_ _) | (with_reducible refine Up.drew ?_) | ((with_reducible refine Up.set ?_ ?_ _); rotate_left; focus (first | omega | (simp; done) | (simp; omega))) | (with_reducible refine Up.drewN ?_ _) | (with_reducible refine Up.call ?_ (by with_reducible assumption))))))).mono ?_); rintro e w6 ⟨x6, v6, hx6, rfl, hv6, hb6⟩); rw [Hz.out] at hx6; subst hx6; obtain ⟨A6, c6, rfl, hrd6, hc6⟩ := slE_ok hv6; have Hrd6 := hid hrd6; clear hv6 hrd6; obtain ⟨hd6, hf6⟩ := bcell hb6; (have lb6 : b2 < w6.heap.size := (by have := Up.le hb6; omega)))
                        | ((go_at_call 11; (with_reducible refine (within_any _ _ z lk _ _ _ (Hrd6.out.up (by (repeat (first | (with_reducible exact Up.refl _) | (with_reducible assumption) | (with_reducible refine Up.alloc ?_ _) | (with_reducible refine Up.drew ?_) | ((with_reducible refine Up.set ?_ ?_ _); rotate_left; focus (first | omega | (simp; done) | (simp; omega))) | (with_reducible refine Up.drewN ?_ _) | (with_reducible refine Up.call ?_ (by with_reducible assumption)))))) (Hr3.out.up (by (repeat (first | (with_reducible exact Up.refl _) | (with_reducible assumption) | (with_reducible refine Up.alloc ?_ _) | (with_reducible refine Up.drew ?_) | ((with_reducible refine Up.set ?_ ?_ _); rotate_left; focus (first | omega | (simp; done) | (simp; omega))) | (with_reducible refine Up.drewN ?_ _) | (with_reducible refine Up.call ?_ (by with_reducible assumption))))))).mono ?_); rintro e w7 ⟨x7, hx7, rfl, hb7⟩); rw [Hzw.out] at hx7; subst hx7; obtain ⟨hd7, hf7⟩ := bcell hb7; (have lb7 : b2 < w7.heap.size := (by have := Up.le hb7; omega)))
                        | ((go_at_call 8; (with_reducible refine (bhas_any _ _ z pk _ _ _ (Hrd6.out.up (by (repeat (first | (with_reducible exact Up.refl _) | (with_reducible assumption) | (with_reducible refine Up.alloc ?_ _) | (with_reducible refine Up.drew ?_) | ((with_reducible refine Up.set ?_ ?_ _); rotate_left; focus (first | omega | (simp; done) | (simp; omega))) | (with_reducible refine Up.drewN ?_ _) | (with_reducible refine Up.call ?_ (by with_reducible assumption)))))) (Hs3.out.up (by (repeat (first | (with_reducible exact Up.refl _) | (with_reducible assumption) | (with_reducible refine Up.alloc ?_ _) | (with_reducible refine Up.drew ?_) | ((with_reducible refine Up.set ?_ ?_ _); rotate_left; focus (first | omega | (simp; done) | (simp; omega))) | (with_reducible refine Up.drewN ?_ _) | (with_reducible refine Up.call ?_ (by with_reducible assumption))))))).mono ?_); rintro e w8 ⟨x8, hx8, rfl, hb8⟩); rw [Hin2.out] at hx8; subst hx8; obtain ⟨hd8, hf8⟩ := bcell hb8; (have lb8 : b2 < w8.heap.size := (by have := Up.le hb8; omega))))
          have hUw : Up wr w8 := by (repeat (first | (with_reducible exact Up.refl _) | (with_reducible assumption) | (with_reducible refine Up.alloc ?_ _) | (with_reducible refine Up.drew ?_) | ((with_reducible refine Up.set ?_ ?_ _); rotate_left; focus (first | omega | (simp; done) | (simp; omega))) | (with_reducible refine Up.drewN ?_ _) | (with_reducible refine Up.call ?_ (by with_reducible assumption))))
          have Hrdw := hid (Hrd6.out.up (show Up w6 w8 from hb7.call hb8))
          go_roundw
          case rel => exact ⟨k + 1, z, A6, c6, by have := Hlt.out; omega, rfl, by go_num, (by rw [Hlk.out]; exact Hzp.out), fun h => (by rw [Hpk.out]; exact Hin1.out), Hrdw.out, hU.call hUw, Cf.up ⟨c0, g0⟩ hUw, Cf.up ⟨c1, g1⟩ hUw⟩
          case measure => have := Hlt.out; simp [intOf]; omega
        · go_wp2_with (first
                        | ((go_at_call 10; (with_reducible refine (cstep_any _ _ _ s c dp _ _ _ _ (Rs5.out.up (hU.call (by (repeat (first | (with_reducible exact Up.refl _) | (with_reducible assumption) | (with_reducible refine Up.alloc ?_ _) | (with_reducible refine Up.drew ?_) | ((with_reducible refine Up.set ?_ ?_ _); rotate_left; focus (first | omega | (simp; done) | (simp; omega))) | (with_reducible refine Up.drewN ?_ _) | (with_reducible refine Up.call ?_ (by with_reducible assumption))))))) (Hrc.out.up (by (repeat (first | (with_reducible exact Up.refl _) | (with_reducible assumption) | (with_reducible refine Up.alloc ?_ _) | (with_reducible refine Up.drew ?_) | ((with_reducible refine Up.set ?_ ?_ _); rotate_left; focus (first | omega | (simp; done) | (simp; omega))) | (with_reducible refine Up.drewN ?_ _) | (with_reducible refine Up.call ?_ (by with_reducible assumption))))))).mono ?_); rintro e w6 ⟨x6, v6, hx6, rfl, hv6, hb6⟩); rw [Hz.out] at hx6; subst hx6; obtain ⟨A6, c6, rfl, hrd6, hc6⟩ := slE_ok hv6; have Hrd6 := hid hrd6; clear hv6 hrd6; obtain ⟨hd6, hf6⟩ := bcell hb6; (have lb6 : b2 < w6.heap.size := (by have := Up.le hb6; omega)))
                        | ((go_at_call 11; (with_reducible refine (within_any _ _ z lk _ _ _ (Hrd6.out.up (by (repeat (first | (with_reducible exact Up.refl _) | (with_reducible assumption) | (with_reducible refine Up.alloc ?_ _) | (with_reducible refine Up.drew ?_) | ((with_reducible refine Up.set ?_ ?_ _); rotate_left; focus (first | omega | (simp; done) | (simp; omega))) | (with_reducible refine Up.drewN ?_ _) | (with_reducible refine Up.call ?_ (by with_reducible assumption)))))) (Hr3.out.up (by (repeat (first | (with_reducible exact Up.refl _) | (with_reducible assumption) | (with_reducible refine Up.alloc ?_ _) | (with_reducible refine Up.drew ?_) | ((with_reducible refine Up.set ?_ ?_ _); rotate_left; focus (first | omega | (simp; done) | (simp; omega))) | (with_reducible refine Up.drewN ?_ _) | (with_reducible refine Up.call ?_ (by with_reducible assumption))))))).mono ?_); rintro e w7 ⟨x7, hx7, rfl, hb7⟩); rw [Hzw.out] at hx7; subst hx7; obtain ⟨hd7, hf7⟩ := bcell hb7; (have lb7 : b2 < w7.heap.size := (by have := Up.le hb7; omega)))
                        | ((go_at_call 8; (with_reducible refine (bhas_any _ _ z pk _ _ _ (Hrd6.out.up (by (repeat (first | (with_reducible exact Up.refl _) | (with_reducible assumption) | (with_reducible refine Up.alloc ?_ _) | (with_reducible refine Up.drew ?_) | ((with_reducible refine Up.set ?_ ?_ _); rotate_left; focus (first | omega | (simp; done) | (simp; omega))) | (with_reducible refine Up.drewN ?_ _) | (with_reducible refine Up.call ?_ (by with_reducible assumption)))))) (Hs3.out.up (by (repeat (first | (with_reducible exact Up.refl _) | (with_reducible assumption) | (with_reducible refine Up.alloc ?_ _) | (with_reducible refine Up.drew ?_) | ((with_reducible refine Up.set ?_ ?_ _); rotate_left; focus (first | omega | (simp; done) | (simp; omega))) | (with_reducible refine Up.drewN ?_ _) | (with_reducible refine Up.call ?_ (by with_reducible assumption))))))).mono ?_); rintro e w8 ⟨x8, hx8, rfl, hb8⟩); rw [Hin2.out] at hx8; subst hx8; obtain ⟨hd8, hf8⟩ := bcell hb8; (have lb8 : b2 < w8.heap.size := (by have := Up.le hb8; omega)))
                        | ((go_at_call 8; (with_reducible refine (bhas_any _ _ bad pk _ _ _ (Rd5.out.up (hU.call (by (repeat (first | (with_reducible exact Up.refl _) | (with_reducible assumption) | (with_reducible refine Up.alloc ?_ _) | (with_reducible refine Up.drew ?_) | ((with_reducible refine Up.set ?_ ?_ _); rotate_left; focus (first | omega | (simp; done) | (simp; omega))) | (with_reducible refine Up.drewN ?_ _) | (with_reducible refine Up.call ?_ (by with_reducible assumption))))))) (Hs3.out.up (by (repeat (first | (with_reducible exact Up.refl _) | (with_reducible assumption) | (with_reducible refine Up.alloc ?_ _) | (with_reducible refine Up.drew ?_) | ((with_reducible refine Up.set ?_ ?_ _); rotate_left; focus (first | omega | (simp; done) | (simp; omega))) | (with_reducible refine Up.drewN ?_ _) | (with_reducible refine Up.call ?_ (by with_reducible assumption))))))).mono ?_); rintro e w9 ⟨x9, hx9, rfl, hb9⟩); rw [Ht.out] at hx9; subst hx9; obtain ⟨hd9, hf9⟩ := bcell hb9))
          have hUw : Up wr w9 := by (repeat (first | (with_reducible exact Up.refl _) | (with_reducible assumption) | (with_reducible refine Up.alloc ?_ _) | (with_reducible refine Up.drew ?_) | ((with_reducible refine Up.set ?_ ?_ _); rotate_left; focus (first | omega | (simp; done) | (simp; omega))) | (with_reducible refine Up.drewN ?_ _) | (with_reducible refine Up.call ?_ (by with_reducible assumption))))
          have Hrdw := hid (Hrd6.out.up (show Up w6 w9 from (hb7.call hb8).call hb9))
          go_roundw
          case rel => exact ⟨k + 1, z, A6, c6, by have := Hlt.out; omega, rfl, by go_num, (by rw [Hlk.out]; exact Hzp.out), fun h => (by rw [Hpk.out]; exact Hin1.out), Hrdw.out, hU.call hUw, Cf.up ⟨c0, g0⟩ hUw, Cf.up ⟨c1, g1⟩ hUw⟩
          case measure => have := Hlt.out; simp [intOf]; omega
        · cases t
          all_goals
            go_wp2_with (first
                        | ((go_at_call 10; (with_reducible refine (cstep_any _ _ _ s c dp _ _ _ _ (Rs5.out.up (hU.call (by (repeat (first | (with_reducible exact Up.refl _) | (with_reducible assumption) | (with_reducible refine Up.alloc ?_ _) | (with_reducible refine Up.drew ?_) | ((with_reducible refine Up.set ?_ ?_ _); rotate_left; focus (first | omega | (simp; done) | (simp; omega))) | (with_reducible refine Up.drewN ?_ _) | (with_reducible refine Up.call ?_ (by with_reducible assumption))))))) (Hrc.out.up (by (repeat (first | (with_reducible exact Up.refl _) | (with_reducible assumption) | (with_reducible refine Up.alloc ?_ _) | (with_reducible refine Up.drew ?_) | ((with_reducible refine Up.set ?_ ?_ _); rotate_left; focus (first | omega | (simp; done) | (simp; omega))) | (with_reducible refine Up.drewN ?_ _) | (with_reducible refine Up.call ?_ (by with_reducible assumption))))))).mono ?_); rintro e w6 ⟨x6, v6, hx6, rfl, hv6, hb6⟩); rw [Hz.out] at hx6; subst hx6; obtain ⟨A6, c6, rfl, hrd6, hc6⟩ := slE_ok hv6; have Hrd6 := hid hrd6; clear hv6 hrd6; obtain ⟨hd6, hf6⟩ := bcell hb6; (have lb6 : b2 < w6.heap.size := (by have := Up.le hb6; omega)))
                        | ((go_at_call 11; (with_reducible refine (within_any _ _ z lk _ _ _ (Hrd6.out.up (by (repeat (first | (with_reducible exact Up.refl _) | (with_reducible assumption) | (with_reducible refine Up.alloc ?_ _) | (with_reducible refine Up.drew ?_) | ((with_reducible refine Up.set ?_ ?_ _); rotate_left; focus (first | omega | (simp; done) | (simp; omega))) | (with_reducible refine Up.drewN ?_ _) | (with_reducible refine Up.call ?_ (by with_reducible assumption)))))) (Hr3.out.up (by (repeat (first | (with_reducible exact Up.refl _) | (with_reducible assumption) | (with_reducible refine Up.alloc ?_ _) | (with_reducible refine Up.drew ?_) | ((with_reducible refine Up.set ?_ ?_ _); rotate_left; focus (first | omega | (simp; done) | (simp; omega))) | (with_reducible refine Up.drewN ?_ _) | (with_reducible refine Up.call ?_ (by with_reducible assumption))))))).mono ?_); rintro e w7 ⟨x7, hx7, rfl, hb7⟩); rw [Hzw.out] at hx7; subst hx7; obtain ⟨hd7, hf7⟩ := bcell hb7; (have lb7 : b2 < w7.heap.size := (by have := Up.le hb7; omega)))
                        | ((go_at_call 8; (with_reducible refine (bhas_any _ _ z pk _ _ _ (Hrd6.out.up (by (repeat (first | (with_reducible exact Up.refl _) | (with_reducible assumption) | (with_reducible refine Up.alloc ?_ _) | (with_reducible refine Up.drew ?_) | ((with_reducible refine Up.set ?_ ?_ _); rotate_left; focus (first | omega | (simp; done) | (simp; omega))) | (with_reducible refine Up.drewN ?_ _) | (with_reducible refine Up.call ?_ (by with_reducible assumption)))))) (Hs3.out.up (by (repeat (first | (with_reducible exact Up.refl _) | (with_reducible assumption) | (with_reducible refine Up.alloc ?_ _) | (with_reducible refine Up.drew ?_) | ((with_reducible refine Up.set ?_ ?_ _); rotate_left; focus (first | omega | (simp; done) | (simp; omega))) | (with_reducible refine Up.drewN ?_ _) | (with_reducible refine Up.call ?_ (by with_reducible assumption))))))).mono ?_); rintro e w8 ⟨x8, hx8, rfl, hb8⟩); rw [Hin2.out] at hx8; subst hx8; obtain ⟨hd8, hf8⟩ := bcell hb8; (have lb8 : b2 < w8.heap.size := (by have := Up.le hb8; omega)))
                        | ((go_at_call 8; (with_reducible refine (bhas_any _ _ bad pk _ _ _ (Rd5.out.up (hU.call (by (repeat (first | (with_reducible exact Up.refl _) | (with_reducible assumption) | (with_reducible refine Up.alloc ?_ _) | (with_reducible refine Up.drew ?_) | ((with_reducible refine Up.set ?_ ?_ _); rotate_left; focus (first | omega | (simp; done) | (simp; omega))) | (with_reducible refine Up.drewN ?_ _) | (with_reducible refine Up.call ?_ (by with_reducible assumption))))))) (Hs3.out.up (by (repeat (first | (with_reducible exact Up.refl _) | (with_reducible assumption) | (with_reducible refine Up.alloc ?_ _) | (with_reducible refine Up.drew ?_) | ((with_reducible refine Up.set ?_ ?_ _); rotate_left; focus (first | omega | (simp; done) | (simp; omega))) | (with_reducible refine Up.drewN ?_ _) | (with_reducible refine Up.call ?_ (by with_reducible assumption))))))).mono ?_); rintro e w9 ⟨x9, hx9, rfl, hb9⟩); rw [Ht.out] at hx9; subst hx9; obtain ⟨hd9, hf9⟩ := bcell hb9))
            have hUw : Up wr w9 := by (repeat (first | (with_reducible exact Up.refl _) | (with_reducible assumption) | (with_reducible refine Up.alloc ?_ _) | (with_reducible refine Up.drew ?_) | ((with_reducible refine Up.set ?_ ?_ _); rotate_left; focus (first | omega | (simp; done) | (simp; omega))) | (with_reducible refine Up.drewN ?_ _) | (with_reducible refine Up.call ?_ (by with_reducible assumption))))
            have Hrdw := hid (Hrd6.out.up (show Up w6 w9 from (hb7.call hb8).call hb9))
            go_roundw
            case rel => exact ⟨k + 1, z, A6, c6, by have := Hlt.out; omega, rfl, by go_num, (by rw [Hlk.out]; exact Hzp.out), fun h => (by rw [Hpk.out]; exact Hin1.out), Hrdw.out, hU.call hUw, Cf.up ⟨c0, g0⟩ hUw, Cf.up ⟨c1, g1⟩ hUw⟩
            case measure => have := Hlt.out; simp [intOf]; omega
    · obtain rfl : k = push.length := by omega
      have HU := hid (HUw5.out.call hU)
      clear gr
      go_wp2
      go_ret
      exact LawEnd.mk rfl HU.out
set_option maxRecDepth 100000 in
set_option maxHeartbeats 8000000 in
theorem topTube_walk (As Bs : Option Addr) (s : Sy) (cs es : Nat) (Ab : Option Addr) (b : List Sp) (cb : Nat) (dp : Int) (Ax : Option Addr) (x : List Int) (cx : Nat) (Aq : Option Addr) (push : List (List Int)) (cq : Nat) (Ad : Option Addr) (bad : List Sp) (cd : Nat) (w : World) (hs : LY w As Bs s cs es) (hb : LS w Ab b cb) (_hd : I64 dp) (hx : LI w Ax x cx) (hq : LII w Aq push cq) (hbad : LS w Ad bad cd) :
    Calls Try.prog 3 #[.agg #[.slice As s.next.length cs, .slice Bs s.push.length es], .slice Ab b.length cb, .int .i64 dp, .slice Ax x.length cx, .slice Aq push.length cq, .slice Ad bad.length cd] w (LawEnd w) := by
  have hpl : push.length ≤ 9223372036854775807 := Nat.le_trans hq.cap hq.max
  cases hl : runF s b push.length with
  | error e =>
    have Rs := hid hs.ry; have Rb := hid hb.rd; have HL := hid hl
    clear hs hb hx hq hbad hl _hd hpl
    go_enter Try.func3, Try.ntmps3
    go_wp2_with (first
                        | ((go_at_call 5; (with_reducible refine (top_any _).mono ?_); rintro e w1 ⟨x1, rfl, rfl, hb1⟩) <;> (have hle := Up.le hb1; (try simp only [World.size_alloc, World.size_setCell, World.size_drew, World.heap_drewN] at hle); (try (have _ : w.heap.size < w1.heap.size := (by omega); (try (apply fk hb1 (w.heap.size); (focus (go_simp; rfl)); (focus (intro o; go_simp)); intro z; (try clear f_0); have f_0 := z; clear z)); (try (apply ck hb1 (w.heap.size) 0; (focus (go_simp; rfl)); intro z; (try clear c_0_0); have c_0_0 := z; clear z; (try (apply ck hb1 (w.heap.size) 1; (focus (go_simp; rfl)); intro z; (try clear c_0_1); have c_0_1 := z; clear z)))))); clear hle; (try (apply old_keep (w0 := w) (w := w1); (focus ((repeat (first | (with_reducible exact Up.refl _) | (with_reducible assumption) | (with_reducible refine Up.alloc ?_ _) | (with_reducible refine Up.drew ?_) | ((with_reducible refine Up.set ?_ ?_ _); rotate_left; focus (first | omega | (simp; done) | (simp; omega))) | (with_reducible refine Up.drewN ?_ _) | (with_reducible refine Up.call ?_ (by with_reducible assumption)))))); intro y z; (try clear hUp); (try clear hOld); have hUp := y; have hOld := z; clear y z))))
                        | ((go_at_call 6; (with_reducible refine (run_any _ _ _ s b push.length _ _ _ _ (Rs.out.up (by (repeat (first | (with_reducible exact Up.refl _) | (with_reducible assumption) | (with_reducible refine Up.alloc ?_ _) | (with_reducible refine Up.drew ?_) | ((with_reducible refine Up.set ?_ ?_ _); rotate_left; focus (first | omega | (simp; done) | (simp; omega))) | (with_reducible refine Up.drewN ?_ _) | (with_reducible refine Up.call ?_ (by with_reducible assumption)))))) (Rb.out.up (by (repeat (first | (with_reducible exact Up.refl _) | (with_reducible assumption) | (with_reducible refine Up.alloc ?_ _) | (with_reducible refine Up.drew ?_) | ((with_reducible refine Up.set ?_ ?_ _); rotate_left; focus (first | omega | (simp; done) | (simp; omega))) | (with_reducible refine Up.drewN ?_ _) | (with_reducible refine Up.call ?_ (by with_reducible assumption))))))).mono ?_); rintro e w2 ⟨x2, v2, hx2, rfl, hv2, hb2⟩ <;> (rw [HL.out] at hx2; subst hx2; obtain rfl := rlNE_error hv2; clear hv2)) <;> (have hle := Up.le hb2; (try simp only [World.size_alloc, World.size_setCell, World.size_drew, World.heap_drewN] at hle); (try (have _ : w.heap.size < w2.heap.size := (by omega); (try (apply fk hb2 (w.heap.size); (focus (go_simp; rfl)); (focus (intro o; go_simp)); intro z; (try clear f_0); have f_0 := z; clear z)); (try (apply ck hb2 (w.heap.size) 0; (focus (go_simp; rfl)); intro z; (try clear c_0_0); have c_0_0 := z; clear z; (try (apply ck hb2 (w.heap.size) 1; (focus (go_simp; rfl)); intro z; (try clear c_0_1); have c_0_1 := z; clear z)))))); (try (have _ : w1.heap.size < w2.heap.size := (by omega); (try (apply fk hb2 (w1.heap.size); (focus (go_simp; rfl)); (focus (intro o; go_simp)); intro z; (try clear f1_0); have f1_0 := z; clear z)); (try (apply ck hb2 (w1.heap.size) 0; (focus (go_simp; rfl)); intro z; (try clear c1_0_0); have c1_0_0 := z; clear z; (try (apply ck hb2 (w1.heap.size) 1; (focus (go_simp; rfl)); intro z; (try clear c1_0_1); have c1_0_1 := z; clear z)))); (try (have _ : w1.heap.size + 1 < w2.heap.size := (by omega); (try (apply fk hb2 (w1.heap.size + 1); (focus (go_simp; rfl)); (focus (intro o; go_simp)); intro z; (try clear f1_1); have f1_1 := z; clear z)); (try (apply ck hb2 (w1.heap.size + 1) 0; (focus (go_simp; rfl)); intro z; (try clear c1_1_0); have c1_1_0 := z; clear z; (try (apply ck hb2 (w1.heap.size + 1) 1; (focus (go_simp; rfl)); intro z; (try clear c1_1_1); have c1_1_1 := z; clear z)))))))); clear hle; (try (apply old_keep (w0 := w) (w := w2); (focus ((repeat (first | (with_reducible exact Up.refl _) | (with_reducible assumption) | (with_reducible refine Up.alloc ?_ _) | (with_reducible refine Up.drew ?_) | ((with_reducible refine Up.set ?_ ?_ _); rotate_left; focus (first | omega | (simp; done) | (simp; omega))) | (with_reducible refine Up.drewN ?_ _) | (with_reducible refine Up.call ?_ (by with_reducible assumption)))))); intro y z; (try clear hUp); (try clear hOld); have hUp := y; have hOld := z; clear y z)))))
    go_ret
    refine LawEnd.mk rfl ?_
    (repeat (first | (with_reducible exact Up.refl _) | (with_reducible assumption) | (with_reducible refine Up.alloc ?_ _) | (with_reducible refine Up.drew ?_) | ((with_reducible refine Up.set ?_ ?_ _); rotate_left; focus (first | omega | (simp; done) | (simp; omega))) | (with_reducible refine Up.drewN ?_ _) | (with_reducible refine Up.call ?_ (by with_reducible assumption))))
  | ok l =>
    by_cases hd : 0 ≤ dp ∧ dp ≤ 3
    · exact tt_main As Bs s cs es Ab b cb dp Ax x cx Aq push cq Ad bad cd w hs.ry hb.rd hx.rd hq.rd hbad.rd hpl hl hd.1 hd.2
    · have Rs := hid hs.ry; have Rb := hid hb.rd; have HL := hid hl
      have hor : (decide (dp < 0) = true) ∨ (decide (dp < 0) = false ∧ decide (3 < dp) = true) := by
        by_cases h : dp < 0
        · exact .inl (decide_eq_true h)
        · exact .inr ⟨decide_eq_false h, decide_eq_true (by omega)⟩
      clear hs hb hx hq hbad hl _hd hpl hd
      rcases hor with d1 | ⟨d1, d2⟩
      all_goals
        go_enter Try.func3, Try.ntmps3
        go_wp2_with (first
                        | ((go_at_call 5; (with_reducible refine (top_any _).mono ?_); rintro e w1 ⟨x1, rfl, rfl, hb1⟩) <;> (have hle := Up.le hb1; (try simp only [World.size_alloc, World.size_setCell, World.size_drew, World.heap_drewN] at hle); (try (have _ : w.heap.size < w1.heap.size := (by omega); (try (apply fk hb1 (w.heap.size); (focus (go_simp; rfl)); (focus (intro o; go_simp)); intro z; (try clear f_0); have f_0 := z; clear z)); (try (apply ck hb1 (w.heap.size) 0; (focus (go_simp; rfl)); intro z; (try clear c_0_0); have c_0_0 := z; clear z; (try (apply ck hb1 (w.heap.size) 1; (focus (go_simp; rfl)); intro z; (try clear c_0_1); have c_0_1 := z; clear z)))))); clear hle; (try (apply old_keep (w0 := w) (w := w1); (focus ((repeat (first | (with_reducible exact Up.refl _) | (with_reducible assumption) | (with_reducible refine Up.alloc ?_ _) | (with_reducible refine Up.drew ?_) | ((with_reducible refine Up.set ?_ ?_ _); rotate_left; focus (first | omega | (simp; done) | (simp; omega))) | (with_reducible refine Up.drewN ?_ _) | (with_reducible refine Up.call ?_ (by with_reducible assumption)))))); intro y z; (try clear hUp); (try clear hOld); have hUp := y; have hOld := z; clear y z))))
                        | ((go_at_call 6; (with_reducible refine (run_any _ _ _ s b push.length _ _ _ _ (Rs.out.up (by (repeat (first | (with_reducible exact Up.refl _) | (with_reducible assumption) | (with_reducible refine Up.alloc ?_ _) | (with_reducible refine Up.drew ?_) | ((with_reducible refine Up.set ?_ ?_ _); rotate_left; focus (first | omega | (simp; done) | (simp; omega))) | (with_reducible refine Up.drewN ?_ _) | (with_reducible refine Up.call ?_ (by with_reducible assumption)))))) (Rb.out.up (by (repeat (first | (with_reducible exact Up.refl _) | (with_reducible assumption) | (with_reducible refine Up.alloc ?_ _) | (with_reducible refine Up.drew ?_) | ((with_reducible refine Up.set ?_ ?_ _); rotate_left; focus (first | omega | (simp; done) | (simp; omega))) | (with_reducible refine Up.drewN ?_ _) | (with_reducible refine Up.call ?_ (by with_reducible assumption))))))).mono ?_); rintro e w2 ⟨x2, v2, hx2, rfl, hv2, hb2⟩ <;> (rw [HL.out] at hx2; subst hx2; obtain ⟨A2, c2, rfl, -, -⟩ := rlNE_ok hv2; clear hv2)) <;> (have hle := Up.le hb2; (try simp only [World.size_alloc, World.size_setCell, World.size_drew, World.heap_drewN] at hle); (try (have _ : w.heap.size < w2.heap.size := (by omega); (try (apply fk hb2 (w.heap.size); (focus (go_simp; rfl)); (focus (intro o; go_simp)); intro z; (try clear f_0); have f_0 := z; clear z)); (try (apply ck hb2 (w.heap.size) 0; (focus (go_simp; rfl)); intro z; (try clear c_0_0); have c_0_0 := z; clear z; (try (apply ck hb2 (w.heap.size) 1; (focus (go_simp; rfl)); intro z; (try clear c_0_1); have c_0_1 := z; clear z)))))); (try (have _ : w1.heap.size < w2.heap.size := (by omega); (try (apply fk hb2 (w1.heap.size); (focus (go_simp; rfl)); (focus (intro o; go_simp)); intro z; (try clear f1_0); have f1_0 := z; clear z)); (try (apply ck hb2 (w1.heap.size) 0; (focus (go_simp; rfl)); intro z; (try clear c1_0_0); have c1_0_0 := z; clear z; (try (apply ck hb2 (w1.heap.size) 1; (focus (go_simp; rfl)); intro z; (try clear c1_0_1); have c1_0_1 := z; clear z)))); (try (have _ : w1.heap.size + 1 < w2.heap.size := (by omega); (try (apply fk hb2 (w1.heap.size + 1); (focus (go_simp; rfl)); (focus (intro o; go_simp)); intro z; (try clear f1_1); have f1_1 := z; clear z)); (try (apply ck hb2 (w1.heap.size + 1) 0; (focus (go_simp; rfl)); intro z; (try clear c1_1_0); have c1_1_0 := z; clear z; (try (apply ck hb2 (w1.heap.size + 1) 1; (focus (go_simp; rfl)); intro z; (try clear c1_1_1); have c1_1_1 := z; clear z)))))))); clear hle; (try (apply old_keep (w0 := w) (w := w2); (focus ((repeat (first | (with_reducible exact Up.refl _) | (with_reducible assumption) | (with_reducible refine Up.alloc ?_ _) | (with_reducible refine Up.drew ?_) | ((with_reducible refine Up.set ?_ ?_ _); rotate_left; focus (first | omega | (simp; done) | (simp; omega))) | (with_reducible refine Up.drewN ?_ _) | (with_reducible refine Up.call ?_ (by with_reducible assumption)))))); intro y z; (try clear hUp); (try clear hOld); have hUp := y; have hOld := z; clear y z)))))
        go_ret
        refine LawEnd.mk rfl ?_
        (repeat (first | (with_reducible exact Up.refl _) | (with_reducible assumption) | (with_reducible refine Up.alloc ?_ _) | (with_reducible refine Up.drew ?_) | ((with_reducible refine Up.set ?_ ?_ _); rotate_left; focus (first | omega | (simp; done) | (simp; omega))) | (with_reducible refine Up.drewN ?_ _) | (with_reducible refine Up.call ?_ (by with_reducible assumption))))
set_option maxRecDepth 100000 in
theorem topTube_lifted (os : Os) (started : os.Started) (H : Type) (enc : TypeId × Value → H) :
    ReturnsInHanded {} Try.checked os 3 .any (Rows.topTubeSpec.pre6 enc Try.prog Try.f3 Rows.topTubeRow.domain false) (Rows.topTubeSpec.post enc Try.prog Try.f3 false true false false) := by
  refine returnsInHanded_of_change (C := Try.checked) Try.own started (by kernel_rfl) Try.func3
    (ChangeSpec.witness6 (enc := enc) (C := Try.checked) false ⟨#[], #[.agg #[.slice none 0 0, .slice none 0 0], .slice none 0 0, .int .i64 0, .slice none 0 0, .slice none 0 0, .slice none 0 0], []⟩ 8 (by kernel_rfl) (by kernel_rfl) (by kernel_rfl) (by kernel_rfl)) ?_
  intro W base args ds gs before hval0 hW hcnd _
  have hval : ∀ (j : Nat) t v, Try.f3.params[j]? = some t → args[j]? = some v → Value.okWide Try.prog W .any base t v := hval0
  have hW' := hW
  obtain ⟨p, q, hA0, hV, rfl, hfz, hnd⟩ := hW
  have hA : DataW.TrodAll enc Try.prog W 0 (fun _ => true) true Try.f3.params.toList args.toList ds p := hA0
  rw [Try.params3] at hA hval
  obtain ⟨v0, v1, v2, v3, v4, v5, d0, d1, d2, d3, d4, d5, p0, p1, p2, p3, p4, p5, rfl, rfl, rfl, h0, h1, h2, h3, h4, h5⟩ := trodAll_6 hA
  obtain ⟨rfl, rfl⟩ := trodVars_none hV
  obtain ⟨A0, B0, s0, c0, e0, rfl, w0⟩ := open_sys (hval 0 25 _ rfl rfl) h0
  obtain ⟨A1, b1, c1, rfl, w1⟩ := open_slist (ti := 3) Try.underlying23 Try.underlying49 Try.cellsSpan rfl rfl rfl rfl Try.underlying3 Try.cellsInt (hval 1 23 _ rfl rfl) h1
  obtain ⟨n2, rfl, w2⟩ := open_i64 Try.underlying3 (hval 2 3 _ rfl rfl) h2
  obtain ⟨A3, l3, c3, rfl, w3⟩ := open_ilist Try.underlying26 Try.underlying3 Try.cellsInt (hval 3 26 _ rfl rfl) h3
  obtain ⟨A4, l4, c4, rfl, w4⟩ := open_ilists (hval 4 27 _ rfl rfl) h4
  obtain ⟨A5, b5, c5, rfl, w5⟩ := open_slist (ti := 3) Try.underlying23 Try.underlying49 Try.cellsSpan rfl rfl rfl rfl Try.underlying3 Try.cellsInt (hval 5 23 _ rfl rfl) h5
  clear hA0 hval0
  refine (topTube_walk A0 B0 s0 c0 e0 A1 b1 c1 n2 A3 l3 c3 A4 l4 c4 A5 b5 c5 W w0 w1 w2 w3 w4 w5).mono fun e W' ⟨he, hu⟩ => ?_
  subst he
  exact ⟨_, rfl, law_post Try.laidOut rfl rfl Try.underlying4 (fun t ht => by simp [Try.params3] at ht; (try rcases ht with rfl | rfl | rfl | rfl | rfl | rfl); all_goals (first | (subst ht; exact ⟨by kernel_rfl, of_decide_eq_true (by kernel_rfl)⟩) | exact ⟨by kernel_rfl, of_decide_eq_true (by kernel_rfl)⟩)) hW' rfl rfl rfl hu⟩
theorem topTube_k1 : (Rows.topTubeRow.inPlace == Try.pinned.checked.prog.inPlace 3) = true := by kernel_rfl
theorem topTube_k2 : (Rows.topTubeRow.unfollowed == Try.pinned.checked.prog.unfollowed 3) = true := by kernel_rfl
theorem topTube_k3 : (Rows.topTubeRow.recurses == Try.pinned.checked.prog.recurses 3) = true := by kernel_rfl
theorem topTube_k4 : (Rows.topTubeRow.named == Try.pinned.checked.prog.varsNamed 3) = true := by kernel_rfl
theorem topTube_facts : joinedFacts Try.pinned.checked.prog 3 Try.f3 Rows.topTubeSpec Rows.topTubeRow = true :=
  joined_of _ _ _ _ _ Try.g1 Try.g2 Try.g3 Try.g4 Try.g5 Try.g6 Try.g7 Try.g8 Try.g9 topTube_k1 topTube_k2 topTube_k3 topTube_k4 (by kernel_rfl)
theorem topTube_holds : Rows.TopTubeSaid :=
  OpenClaim.holds_of_wide 3 Try.f3 rfl rfl rfl rfl rfl rfl rfl ⟨rfl, rfl, rfl, rfl, rfl⟩ rfl rfl rfl rfl rfl (by kernel_rfl) Try.func3 topTube_facts
    (of_decide_eq_true (by kernel_rfl)) (by unfold Func.isWrapper; rw [if_neg (by decide +kernel)]; exact ⟨rfl, rfl⟩)
    (fun os started H enc _ => topTube_lifted os started H enc)
#print axioms topTube_holds
end Go.Proofs.Ytknkpjfoaijaoaa
