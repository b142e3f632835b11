/- BoxParts: what a box has one of its halves has, and no more; what both of two have just what they meet in has; each is within both's hull. -/
import Derived.Test.YtmnbgcbiaapldaaClone
import Derived.Test.YtmnbgcbiaapldaaSame
import Derived.Test.YtmnbgcbiaapldaaBoxd
import Derived.Test.YtmnbgcbiaapldaaHash
import Derived.Test.YtmnbgcbiaapldaaLits
import Derived.Test.YtmnbgcbiaapldaaRowb
import Derived.Test.YtmnbgcbiaapldaaFacts

set_option linter.unusedVariables false
set_option linter.unusedSimpArgs false
namespace Go.Proofs.Ytmnbgcbiaapldaa
open Go.ChangeShapes Go.WideShapes Go.ChangeAt Go.RowKit Go.Joins Go.Deep

theorem fact_halve : halveF [⟨0, 4⟩, ⟨0, 9⟩] = .ok ([⟨0, 4⟩, ⟨0, 4⟩], [⟨0, 4⟩, ⟨4, 9⟩]) := by rfl
theorem OwnS.rdS {w : World} {base n c : Nat} {A : Option Addr} {l : List Sp} (h : OwnS w base (.slice A n c) l) : RdS w A l ∧ n = l.length ∧ l.length ≤ c := by
  obtain ⟨A', c', hv, h1, h2⟩ := h.rd
  injection hv with e1 e2 e3
  subst e1; subst e2; subst e3
  exact ⟨h1, rfl, h2⟩
theorem own2E_ok {base : Nat} {w : World} {p : List Sp × List Sp} {v : Value} (h : own2E base w (.ok p) v) : ∃ A c B d, v = .tuple #[.slice A p.1.length c, .slice B p.2.length d, .nilIface] ∧ RdS w A p.1 ∧ RdS w B p.2 := by
  obtain ⟨v1, v2, rfl, h1, h2⟩ := h
  obtain ⟨A, c, rfl, r1, -⟩ := h1.rd
  obtain ⟨B, d, rfl, r2, -⟩ := h2.rd
  exact ⟨A, c, B, d, rfl, r1, r2⟩
theorem own2E_error {base : Nat} {w : World} {n : Nat} {v : Value} (h : own2E base w (.error n) v) : v = .tuple #[.slice none 0 0, .slice none 0 0, .iface 23 (.int .i64 n)] := h
theorem two_cells {w : World} {A : Option Addr} {s t : Sp} (h : RdS w A [s, t]) : ∃ b o, A = some ⟨b, o, none⟩ ∧ b < w.heap.size ∧ w.cell? ⟨b, o, none⟩ = some (.int .i64 s.lo) ∧ w.cell? ⟨b, o + 1, none⟩ = some (.int .i64 s.hi) ∧ w.cell? ⟨b, o + 2, none⟩ = some (.int .i64 t.lo) ∧ w.cell? ⟨b, o + 3, none⟩ = some (.int .i64 t.hi) := by
  obtain ⟨b, o, rfl, hb, k⟩ := h (by simp)
  exact ⟨b, o, rfl, hb, (k 0 (by simp)).1, (k 0 (by simp)).2, (k 1 (by simp)).1, (k 1 (by simp)).2⟩
theorem fact_parts {base : Nat} {w : World} {v : Value} (h : own2E base w (.ok ([⟨0, 4⟩, ⟨0, 4⟩], [⟨0, 4⟩, ⟨4, 9⟩])) v) : ∃ b o c b' o' c', v = .tuple #[.slice (some ⟨b, o, none⟩) 2 c, .slice (some ⟨b', o', none⟩) 2 c', .nilIface] ∧ b < w.heap.size ∧ b' < w.heap.size ∧
    w.cell? ⟨b, o + 1, none⟩ = some (.int .i64 4) ∧ w.cell? ⟨b, o + 3, none⟩ = some (.int .i64 4) ∧ w.cell? ⟨b', o' + 2, none⟩ = some (.int .i64 4) := by
  obtain ⟨A, c, B, d, rfl, r1, r2⟩ := own2E_ok h
  obtain ⟨b, o, rfl, hb, -, k1, -, k2⟩ := two_cells r1
  obtain ⟨b', o', rfl, hb', -, -, k3, -⟩ := two_cells r2
  exact ⟨b, o, c, b', o', d, rfl, hb, hb', k1, k2, k3⟩
theorem halves_has {a : List Sp} {x : List Int} {v : Bool} (h : hasF a x = .ok v) : halveF a = .ok (halvesF a) ∧ bhullF (halvesF a).1 (halvesF a).2 = .ok a ∧ ∃ l r, hasF (halvesF a).1 x = .ok l ∧ hasF (halvesF a).2 x = .ok r ∧ v = (l || r) := by
  obtain ⟨hb, hl, hv⟩ := hasF_ok h
  obtain ⟨b1, b2⟩ := halves_bx hb
  obtain ⟨l1, l2⟩ := halves_len a
  have hle : ∀ s ∈ a, s.lo ≤ s.hi := fun s hs => (hb.spans s hs).2.2
  obtain ⟨l, h1⟩ := hasF_all b1 (x := x) (by omega)
  obtain ⟨r, h2⟩ := hasF_all b2 (x := x) (by omega)
  refine ⟨?_, ?_, l, r, h1, h2, ?_⟩
  · unfold halveF; rw [hb.check]; rfl
  · unfold bhullF btwoF
    rw [b1.check]
    dsimp only
    rw [b2.check]
    dsimp only
    rw [if_pos (by omega)]
    show Except.ok _ = _
    rw [halves_hull hb.pos hle]
  · have q1 := (hasF_ok h1).2.2
    have q2 := (hasF_ok h2).2.2
    have q := halves_in hb.pos hle x
    cases v <;> cases l <;> cases r <;> simp_all
theorem two_has {a b : List Sp} {x : List Int} {v u : Bool} (h : hasF a x = .ok v) (h' : hasF b x = .ok u) : ∃ w, bhullF a b = .ok w ∧ withinF a w = .ok true ∧ withinF b w = .ok true ∧ w.length = a.length ∧
    ((∃ n, bmeetF a b = .error n ∧ (v && u) = false) ∨ ∃ m, bmeetF a b = .ok m ∧ hasF m x = .ok (v && u)) := by
  obtain ⟨ha, hl, hv⟩ := hasF_ok h
  obtain ⟨hb, hl', hu⟩ := hasF_ok h'
  have hab : a.length = b.length := by omega
  have ale : ∀ s ∈ a, s.lo ≤ s.hi := fun s hs => (ha.spans s hs).2.2
  have ble : ∀ s ∈ b, s.lo ≤ s.hi := fun s hs => (hb.spans s hs).2.2
  have h2 : btwoF a b = none := by
    unfold btwoF
    rw [ha.check]
    dsimp only
    rw [hb.check]
    dsimp only
    rw [if_pos hab]
  have hwl := bboth_len hab
  obtain ⟨p1, p2⟩ := parts_hull hab ale ble
  have hwb : Bx (bbothF a b) := by
    refine ⟨by rw [hwl]; exact ha.pos, by rw [hwl]; exact ha.few, fun s hs => ?_⟩
    obtain ⟨i, hi, rfl⟩ := List.getElem_of_mem hs
    have e := bboth_at hab (i := i) (by omega)
    unfold sAt at e
    rw [List.getElem?_eq_getElem hi] at e
    simp only [Option.getD_some] at e
    rw [e]
    obtain ⟨⟨a1, a2⟩, ⟨a3, a4⟩, a5⟩ := ha.spans _ (mem_at (show i < a.length by omega))
    obtain ⟨⟨b1, b2⟩, ⟨b3, b4⟩, b5⟩ := hb.spans _ (mem_at (show i < b.length by omega))
    unfold sAt at *
    unfold bothF Rt M
    dsimp only
    omega
  have hin : ∀ c, Bx c → Parts c (bbothF a b) → withinF c (bbothF a b) = .ok true := by
    intro c hc hp
    unfold withinF btwoF
    rw [hc.check]
    dsimp only
    rw [hwb.check]
    dsimp only
    rw [if_pos hp.len]
    show Except.ok _ = _
    rw [hp.inF]
  refine ⟨bbothF a b, ?_, hin a ha p1, hin b hb p2, hwl, ?_⟩
  · unfold bhullF; rw [h2]; rfl
  · cases hm : bcomF a b with
    | error n =>
      refine .inl ⟨n, by unfold bmeetF; rw [h2]; exact hm, ?_⟩
      have := bcom_bad (x := x) hab hm
      cases v <;> cases u <;> simp_all
    | ok m =>
      refine .inr ⟨m, by unfold bmeetF; rw [h2]; exact hm, ?_⟩
      obtain ⟨q1, q2, q3⟩ := bcom_ok (x := x) hab hm
      have hmb : Bx m := ⟨by have := ha.pos; omega, by have := ha.few; omega, q3 ha.spans hb.spans⟩
      obtain ⟨r, hr⟩ := hasF_all hmb (x := x) (by omega)
      have q4 := (hasF_ok hr).2.2
      rw [hr]
      cases v <;> cases u <;> cases r <;> simp_all
theorem slE_read {w : World} {l : List Sp} {v : Value} (h : slE w (.ok l) v) : ∃ A c, v = .tuple #[.slice A l.length c, .nilIface] ∧ RdS w A l := by
  obtain ⟨A, c, hv, hr, -⟩ := slE_ok h
  exact ⟨A, c, hv, hr⟩




set_option maxRecDepth 100000 in
set_option maxHeartbeats 16000000 in
theorem boxParts_walk (Aa : Option Addr) (a : List Sp) (ca : Nat) (Ab : Option Addr) (b : List Sp) (cb : Nat) (Ax : Option Addr) (x : List Int) (cx : Nat) (w : World) (ha : LS w Aa a ca) (hb : LS w Ab b cb) (hx : LI w Ax x cx) :
    Calls Try.prog 9 #[.slice Aa a.length ca, .slice Ab b.length cb, .slice Ax x.length cx] w (LawEnd w) := by
  have Ra := hid ha.rd; have Rb := hid hb.rd; have Rx := hid hx.rd
  have Hla := hid (Nat.le_trans ha.cap ha.max)
  clear ha hb hx
  have HF := hid (fun A W (hr : RdS W A [⟨0, 4⟩, ⟨0, 9⟩]) => (halve_any A [⟨0, 4⟩, ⟨0, 9⟩] 2 W hr : Calls Try.prog 44 #[.slice A 2 2] W (RetR (own2E W.heap.size) (halveF [⟨0, 4⟩, ⟨0, 9⟩]) W)))
  cases h2 : hasF a x with
  | error e =>
    have H2 := hid h2; clear h2
    go_enter Try.func9, Try.ntmps9
    go_wp2_with (first
                        | ((go_at_call 42; (with_reducible refine (bhas_any Aa Ax a x ca cx _ (Ra.out.up (by (repeat (first | (with_reducible exact Up.refl _) | (with_reducible assumption) | (with_reducible refine Up.alloc ?_ _) | (with_reducible refine Up.drew ?_) | ((with_reducible refine Up.set ?_ ?_ _); rotate_left; focus (first | omega | (simp; done) | (simp; omega))) | (with_reducible refine Up.drewN ?_ _) | (with_reducible refine Up.call ?_ (by with_reducible assumption)))))) (Rx.out.up (by (repeat (first | (with_reducible exact Up.refl _) | (with_reducible assumption) | (with_reducible refine Up.alloc ?_ _) | (with_reducible refine Up.drew ?_) | ((with_reducible refine Up.set ?_ ?_ _); rotate_left; focus (first | omega | (simp; done) | (simp; omega))) | (with_reducible refine Up.drewN ?_ _) | (with_reducible refine Up.call ?_ (by with_reducible assumption))))))).mono ?_); rintro e w2 ⟨x2, hx2, rfl, hb2⟩ <;> (rw [H2.out] at hx2; subst hx2)) <;> (have hle := Up.le hb2; (try simp only [World.size_alloc, World.size_setCell, World.size_drew, World.heap_drewN] at hle); clear hle))
                        | ((go_at_call 44; (refine (HF.out _ _ (rds2 (by go_simp) (by go_simp) (by go_simp) (by go_simp))).mono ?_); rintro e w1 ⟨x1, v1, hx1, rfl, hv1, hb1⟩ <;> (rw [fact_halve] at hx1; subst hx1; obtain ⟨g, o, k, g', o', k', rfl, lg, lg', pa, pb, pc⟩ := fact_parts hv1; clear hv1)) <;> (have hle := Up.le hb1; (try simp only [World.size_alloc, World.size_setCell, World.size_drew, World.heap_drewN] at hle); clear hle)))
    all_goals
      go_ret
      refine LawEnd.mk rfl ?_
      (repeat (first | (with_reducible exact Up.refl _) | (with_reducible assumption) | (with_reducible refine Up.alloc ?_ _) | (with_reducible refine Up.drew ?_) | ((with_reducible refine Up.set ?_ ?_ _); rotate_left; focus (first | omega | (simp; done) | (simp; omega))) | (with_reducible refine Up.drewN ?_ _) | (with_reducible refine Up.call ?_ (by with_reducible assumption))))
  | ok v =>
    obtain ⟨h3, h6, l, r, h4, h5, hv⟩ := halves_has h2
    have H2 := hid h2; have H3 := hid h3; have H4 := hid h4; have H5 := hid h5; have H6 := hid h6
    cases h8 : hasF b x with
    | error e =>
      have H8 := hid h8
      clear h2 h3 h4 h5 h6 h8
      cases v <;> cases l <;> cases r <;> simp only [Bool.or_true, Bool.true_or, Bool.or_false, Bool.false_eq_true, Bool.true_eq_false] at hv
      all_goals
        clear hv
        go_enter Try.func9, Try.ntmps9
        go_wp2_with (first
                        | ((go_at_call 42; have _n := hb7; clear _n; (with_reducible refine (bhas_any Ab Ax b x cb cx _ (Rb.out.up (by (repeat (first | (with_reducible exact Up.refl _) | (with_reducible assumption) | (with_reducible refine Up.alloc ?_ _) | (with_reducible refine Up.drew ?_) | ((with_reducible refine Up.set ?_ ?_ _); rotate_left; focus (first | omega | (simp; done) | (simp; omega))) | (with_reducible refine Up.drewN ?_ _) | (with_reducible refine Up.call ?_ (by with_reducible assumption)))))) (Rx.out.up (by (repeat (first | (with_reducible exact Up.refl _) | (with_reducible assumption) | (with_reducible refine Up.alloc ?_ _) | (with_reducible refine Up.drew ?_) | ((with_reducible refine Up.set ?_ ?_ _); rotate_left; focus (first | omega | (simp; done) | (simp; omega))) | (with_reducible refine Up.drewN ?_ _) | (with_reducible refine Up.call ?_ (by with_reducible assumption))))))).mono ?_); rintro e w8 ⟨x8, hx8, rfl, hb8⟩ <;> (rw [H8.out] at hx8; subst hx8)) <;> (have hle := Up.le hb8; (try simp only [World.size_alloc, World.size_setCell, World.size_drew, World.heap_drewN] at hle); clear hle))
                        | (fail)
                        | ((go_at_call 42; (with_reducible refine (bhas_any Aa Ax a x ca cx _ (Ra.out.up (by (repeat (first | (with_reducible exact Up.refl _) | (with_reducible assumption) | (with_reducible refine Up.alloc ?_ _) | (with_reducible refine Up.drew ?_) | ((with_reducible refine Up.set ?_ ?_ _); rotate_left; focus (first | omega | (simp; done) | (simp; omega))) | (with_reducible refine Up.drewN ?_ _) | (with_reducible refine Up.call ?_ (by with_reducible assumption)))))) (Rx.out.up (by (repeat (first | (with_reducible exact Up.refl _) | (with_reducible assumption) | (with_reducible refine Up.alloc ?_ _) | (with_reducible refine Up.drew ?_) | ((with_reducible refine Up.set ?_ ?_ _); rotate_left; focus (first | omega | (simp; done) | (simp; omega))) | (with_reducible refine Up.drewN ?_ _) | (with_reducible refine Up.call ?_ (by with_reducible assumption))))))).mono ?_); rintro e w2 ⟨x2, hx2, rfl, hb2⟩ <;> (rw [H2.out] at hx2; subst hx2)) <;> (have hle := Up.le hb2; (try simp only [World.size_alloc, World.size_setCell, World.size_drew, World.heap_drewN] at hle); clear hle))
                        | ((go_at_call 44; (with_reducible refine (halve_any Aa a ca _ (Ra.out.up (by (repeat (first | (with_reducible exact Up.refl _) | (with_reducible assumption) | (with_reducible refine Up.alloc ?_ _) | (with_reducible refine Up.drew ?_) | ((with_reducible refine Up.set ?_ ?_ _); rotate_left; focus (first | omega | (simp; done) | (simp; omega))) | (with_reducible refine Up.drewN ?_ _) | (with_reducible refine Up.call ?_ (by with_reducible assumption))))))).mono ?_); rintro e w3 ⟨x3, v3, hx3, rfl, hv3, hb3⟩ <;> (rw [H3.out] at hx3; subst hx3; obtain ⟨Ay, cy, Az, cz, rfl, ry, rz⟩ := own2E_ok hv3; have Ry := hid ry; have Rz := hid rz; clear hv3 ry rz)) <;> (have hle := Up.le hb3; (try simp only [World.size_alloc, World.size_setCell, World.size_drew, World.heap_drewN] at hle); clear hle))
                        | ((go_at_call 51; (with_reducible refine (bhull_any _ _ _ _ _ _ _ (Ry.out.up (by (repeat (first | (with_reducible exact Up.refl _) | (with_reducible assumption) | (with_reducible refine Up.alloc ?_ _) | (with_reducible refine Up.drew ?_) | ((with_reducible refine Up.set ?_ ?_ _); rotate_left; focus (first | omega | (simp; done) | (simp; omega))) | (with_reducible refine Up.drewN ?_ _) | (with_reducible refine Up.call ?_ (by with_reducible assumption)))))) (Rz.out.up (by (repeat (first | (with_reducible exact Up.refl _) | (with_reducible assumption) | (with_reducible refine Up.alloc ?_ _) | (with_reducible refine Up.drew ?_) | ((with_reducible refine Up.set ?_ ?_ _); rotate_left; focus (first | omega | (simp; done) | (simp; omega))) | (with_reducible refine Up.drewN ?_ _) | (with_reducible refine Up.call ?_ (by with_reducible assumption))))))).mono ?_); rintro e w6 ⟨x6, v6, hx6, rfl, hv6, hb6⟩ <;> (rw [H6.out] at hx6; subst hx6; obtain ⟨Ah, ch, rfl, rh⟩ := slE_read hv6; have Rh := hid rh; clear hv6 rh)) <;> (have hle := Up.le hb6; (try simp only [World.size_alloc, World.size_setCell, World.size_drew, World.heap_drewN] at hle); clear hle))
                        | ((go_at_call 42; have _n := hb4; clear _n; (with_reducible refine (bhas_any _ Ax (halvesF a).2 x _ cx _ (Rz.out.up (by (repeat (first | (with_reducible exact Up.refl _) | (with_reducible assumption) | (with_reducible refine Up.alloc ?_ _) | (with_reducible refine Up.drew ?_) | ((with_reducible refine Up.set ?_ ?_ _); rotate_left; focus (first | omega | (simp; done) | (simp; omega))) | (with_reducible refine Up.drewN ?_ _) | (with_reducible refine Up.call ?_ (by with_reducible assumption)))))) (Rx.out.up (by (repeat (first | (with_reducible exact Up.refl _) | (with_reducible assumption) | (with_reducible refine Up.alloc ?_ _) | (with_reducible refine Up.drew ?_) | ((with_reducible refine Up.set ?_ ?_ _); rotate_left; focus (first | omega | (simp; done) | (simp; omega))) | (with_reducible refine Up.drewN ?_ _) | (with_reducible refine Up.call ?_ (by with_reducible assumption))))))).mono ?_); rintro e w5 ⟨x5, hx5, rfl, hb5⟩ <;> (rw [H5.out] at hx5; subst hx5)) <;> (have hle := Up.le hb5; (try simp only [World.size_alloc, World.size_setCell, World.size_drew, World.heap_drewN] at hle); clear hle))
                        | ((go_at_call 42; have _n := hb3; clear _n; (with_reducible refine (bhas_any _ Ax (halvesF a).1 x _ cx _ (Ry.out.up (by (repeat (first | (with_reducible exact Up.refl _) | (with_reducible assumption) | (with_reducible refine Up.alloc ?_ _) | (with_reducible refine Up.drew ?_) | ((with_reducible refine Up.set ?_ ?_ _); rotate_left; focus (first | omega | (simp; done) | (simp; omega))) | (with_reducible refine Up.drewN ?_ _) | (with_reducible refine Up.call ?_ (by with_reducible assumption)))))) (Rx.out.up (by (repeat (first | (with_reducible exact Up.refl _) | (with_reducible assumption) | (with_reducible refine Up.alloc ?_ _) | (with_reducible refine Up.drew ?_) | ((with_reducible refine Up.set ?_ ?_ _); rotate_left; focus (first | omega | (simp; done) | (simp; omega))) | (with_reducible refine Up.drewN ?_ _) | (with_reducible refine Up.call ?_ (by with_reducible assumption))))))).mono ?_); rintro e w4 ⟨x4, hx4, rfl, hb4⟩ <;> (rw [H4.out] at hx4; subst hx4)) <;> (have hle := Up.le hb4; (try simp only [World.size_alloc, World.size_setCell, World.size_drew, World.heap_drewN] at hle); clear hle))
                        | ((go_at_call 45; (with_reducible refine (sbox_any _ _ a a _ _ _ (Rh.out.up (by (repeat (first | (with_reducible exact Up.refl _) | (with_reducible assumption) | (with_reducible refine Up.alloc ?_ _) | (with_reducible refine Up.drew ?_) | ((with_reducible refine Up.set ?_ ?_ _); rotate_left; focus (first | omega | (simp; done) | (simp; omega))) | (with_reducible refine Up.drewN ?_ _) | (with_reducible refine Up.call ?_ (by with_reducible assumption)))))) (Ra.out.up (by (repeat (first | (with_reducible exact Up.refl _) | (with_reducible assumption) | (with_reducible refine Up.alloc ?_ _) | (with_reducible refine Up.drew ?_) | ((with_reducible refine Up.set ?_ ?_ _); rotate_left; focus (first | omega | (simp; done) | (simp; omega))) | (with_reducible refine Up.drewN ?_ _) | (with_reducible refine Up.call ?_ (by with_reducible assumption)))))) Hla.out).mono ?_); rintro e w7 ⟨x7, hx7, rfl, hb7⟩ <;> (rw [decide_eq_true rfl] at hx7; subst hx7)) <;> (have hle := Up.le hb7; (try simp only [World.size_alloc, World.size_setCell, World.size_drew, World.heap_drewN] at hle); clear hle))
                        | ((go_at_call 44; (refine (HF.out _ _ (rds2 (by go_simp) (by go_simp) (by go_simp) (by go_simp))).mono ?_); rintro e w1 ⟨x1, v1, hx1, rfl, hv1, hb1⟩ <;> (rw [fact_halve] at hx1; subst hx1; obtain ⟨g, o, k, g', o', k', rfl, lg, lg', pa, pb, pc⟩ := fact_parts hv1; clear hv1)) <;> (have hle := Up.le hb1; (try simp only [World.size_alloc, World.size_setCell, World.size_drew, World.heap_drewN] at hle); clear hle)))
        all_goals
          go_ret
          refine LawEnd.mk rfl ?_
          (repeat (first | (with_reducible exact Up.refl _) | (with_reducible assumption) | (with_reducible refine Up.alloc ?_ _) | (with_reducible refine Up.drew ?_) | ((with_reducible refine Up.set ?_ ?_ _); rotate_left; focus (first | omega | (simp; done) | (simp; omega))) | (with_reducible refine Up.drewN ?_ _) | (with_reducible refine Up.call ?_ (by with_reducible assumption))))
    | ok u =>
      have H8 := hid h8
      obtain ⟨wl, h9, h10, h11, -, hmm⟩ := two_has h2 h8
      have H9 := hid h9; have H10 := hid h10; have H11 := hid h11
      clear h2 h3 h4 h5 h6 h8 h9 h10 h11
      rcases hmm with ⟨n, h12, huv⟩ | ⟨m, h12, h13⟩
      · have H12 := hid h12
        clear h12
        cases v <;> cases l <;> cases r <;> simp only [Bool.or_true, Bool.true_or, Bool.or_false, Bool.false_eq_true, Bool.true_eq_false] at hv
        all_goals
          clear hv
          cases u <;> simp only [Bool.and_true, Bool.and_false, Bool.false_eq_true, Bool.true_eq_false] at huv
        all_goals
          (try clear huv)
          go_enter Try.func9, Try.ntmps9
          go_wp2_with (first
                        | ((go_at_call 42; have _n := hb7; clear _n; (with_reducible refine (bhas_any Ab Ax b x cb cx _ (Rb.out.up (by (repeat (first | (with_reducible exact Up.refl _) | (with_reducible assumption) | (with_reducible refine Up.alloc ?_ _) | (with_reducible refine Up.drew ?_) | ((with_reducible refine Up.set ?_ ?_ _); rotate_left; focus (first | omega | (simp; done) | (simp; omega))) | (with_reducible refine Up.drewN ?_ _) | (with_reducible refine Up.call ?_ (by with_reducible assumption)))))) (Rx.out.up (by (repeat (first | (with_reducible exact Up.refl _) | (with_reducible assumption) | (with_reducible refine Up.alloc ?_ _) | (with_reducible refine Up.drew ?_) | ((with_reducible refine Up.set ?_ ?_ _); rotate_left; focus (first | omega | (simp; done) | (simp; omega))) | (with_reducible refine Up.drewN ?_ _) | (with_reducible refine Up.call ?_ (by with_reducible assumption))))))).mono ?_); rintro e w8 ⟨x8, hx8, rfl, hb8⟩ <;> (rw [H8.out] at hx8; subst hx8)) <;> (have hle := Up.le hb8; (try simp only [World.size_alloc, World.size_setCell, World.size_drew, World.heap_drewN] at hle); clear hle))
                        | ((go_at_call 51; have _n := hb8; clear _n; (with_reducible refine (bhull_any Aa Ab a b ca cb _ (Ra.out.up (by (repeat (first | (with_reducible exact Up.refl _) | (with_reducible assumption) | (with_reducible refine Up.alloc ?_ _) | (with_reducible refine Up.drew ?_) | ((with_reducible refine Up.set ?_ ?_ _); rotate_left; focus (first | omega | (simp; done) | (simp; omega))) | (with_reducible refine Up.drewN ?_ _) | (with_reducible refine Up.call ?_ (by with_reducible assumption)))))) (Rb.out.up (by (repeat (first | (with_reducible exact Up.refl _) | (with_reducible assumption) | (with_reducible refine Up.alloc ?_ _) | (with_reducible refine Up.drew ?_) | ((with_reducible refine Up.set ?_ ?_ _); rotate_left; focus (first | omega | (simp; done) | (simp; omega))) | (with_reducible refine Up.drewN ?_ _) | (with_reducible refine Up.call ?_ (by with_reducible assumption))))))).mono ?_); rintro e w9 ⟨x9, v9, hx9, rfl, hv9, hb9⟩ <;> (rw [H9.out] at hx9; subst hx9; obtain ⟨Aw, cw, rfl, rw9⟩ := slE_read hv9; have Rw := hid rw9; clear hv9 rw9)) <;> (have hle := Up.le hb9; (try simp only [World.size_alloc, World.size_setCell, World.size_drew, World.heap_drewN] at hle); clear hle))
                        | ((go_at_call 52; have _n := hb9; clear _n; (with_reducible refine (within_any Aa _ a wl ca _ _ (Ra.out.up (by (repeat (first | (with_reducible exact Up.refl _) | (with_reducible assumption) | (with_reducible refine Up.alloc ?_ _) | (with_reducible refine Up.drew ?_) | ((with_reducible refine Up.set ?_ ?_ _); rotate_left; focus (first | omega | (simp; done) | (simp; omega))) | (with_reducible refine Up.drewN ?_ _) | (with_reducible refine Up.call ?_ (by with_reducible assumption)))))) (Rw.out.up (by (repeat (first | (with_reducible exact Up.refl _) | (with_reducible assumption) | (with_reducible refine Up.alloc ?_ _) | (with_reducible refine Up.drew ?_) | ((with_reducible refine Up.set ?_ ?_ _); rotate_left; focus (first | omega | (simp; done) | (simp; omega))) | (with_reducible refine Up.drewN ?_ _) | (with_reducible refine Up.call ?_ (by with_reducible assumption))))))).mono ?_); rintro e w10 ⟨x10, hx10, rfl, hb10⟩ <;> (rw [H10.out] at hx10; subst hx10)) <;> (have hle := Up.le hb10; (try simp only [World.size_alloc, World.size_setCell, World.size_drew, World.heap_drewN] at hle); clear hle))
                        | ((go_at_call 52; have _n := hb10; clear _n; (with_reducible refine (within_any Ab _ b wl cb _ _ (Rb.out.up (by (repeat (first | (with_reducible exact Up.refl _) | (with_reducible assumption) | (with_reducible refine Up.alloc ?_ _) | (with_reducible refine Up.drew ?_) | ((with_reducible refine Up.set ?_ ?_ _); rotate_left; focus (first | omega | (simp; done) | (simp; omega))) | (with_reducible refine Up.drewN ?_ _) | (with_reducible refine Up.call ?_ (by with_reducible assumption)))))) (Rw.out.up (by (repeat (first | (with_reducible exact Up.refl _) | (with_reducible assumption) | (with_reducible refine Up.alloc ?_ _) | (with_reducible refine Up.drew ?_) | ((with_reducible refine Up.set ?_ ?_ _); rotate_left; focus (first | omega | (simp; done) | (simp; omega))) | (with_reducible refine Up.drewN ?_ _) | (with_reducible refine Up.call ?_ (by with_reducible assumption))))))).mono ?_); rintro e w11 ⟨x11, hx11, rfl, hb11⟩ <;> (rw [H11.out] at hx11; subst hx11)) <;> (have hle := Up.le hb11; (try simp only [World.size_alloc, World.size_setCell, World.size_drew, World.heap_drewN] at hle); clear hle))
                        | ((go_at_call 53; (with_reducible refine (bmeet_any Aa Ab a b ca cb _ (Ra.out.up (by (repeat (first | (with_reducible exact Up.refl _) | (with_reducible assumption) | (with_reducible refine Up.alloc ?_ _) | (with_reducible refine Up.drew ?_) | ((with_reducible refine Up.set ?_ ?_ _); rotate_left; focus (first | omega | (simp; done) | (simp; omega))) | (with_reducible refine Up.drewN ?_ _) | (with_reducible refine Up.call ?_ (by with_reducible assumption)))))) (Rb.out.up (by (repeat (first | (with_reducible exact Up.refl _) | (with_reducible assumption) | (with_reducible refine Up.alloc ?_ _) | (with_reducible refine Up.drew ?_) | ((with_reducible refine Up.set ?_ ?_ _); rotate_left; focus (first | omega | (simp; done) | (simp; omega))) | (with_reducible refine Up.drewN ?_ _) | (with_reducible refine Up.call ?_ (by with_reducible assumption))))))).mono ?_); rintro e w12 ⟨x12, v12, hx12, rfl, hv12, hb12⟩ <;> (rw [H12.out] at hx12; subst hx12; obtain rfl := slE_error hv12; clear hv12)) <;> (have hle := Up.le hb12; (try simp only [World.size_alloc, World.size_setCell, World.size_drew, World.heap_drewN] at hle); clear hle))
                        | ((go_at_call 42; (with_reducible refine (bhas_any Aa Ax a x ca cx _ (Ra.out.up (by (repeat (first | (with_reducible exact Up.refl _) | (with_reducible assumption) | (with_reducible refine Up.alloc ?_ _) | (with_reducible refine Up.drew ?_) | ((with_reducible refine Up.set ?_ ?_ _); rotate_left; focus (first | omega | (simp; done) | (simp; omega))) | (with_reducible refine Up.drewN ?_ _) | (with_reducible refine Up.call ?_ (by with_reducible assumption)))))) (Rx.out.up (by (repeat (first | (with_reducible exact Up.refl _) | (with_reducible assumption) | (with_reducible refine Up.alloc ?_ _) | (with_reducible refine Up.drew ?_) | ((with_reducible refine Up.set ?_ ?_ _); rotate_left; focus (first | omega | (simp; done) | (simp; omega))) | (with_reducible refine Up.drewN ?_ _) | (with_reducible refine Up.call ?_ (by with_reducible assumption))))))).mono ?_); rintro e w2 ⟨x2, hx2, rfl, hb2⟩ <;> (rw [H2.out] at hx2; subst hx2)) <;> (have hle := Up.le hb2; (try simp only [World.size_alloc, World.size_setCell, World.size_drew, World.heap_drewN] at hle); clear hle))
                        | ((go_at_call 44; (with_reducible refine (halve_any Aa a ca _ (Ra.out.up (by (repeat (first | (with_reducible exact Up.refl _) | (with_reducible assumption) | (with_reducible refine Up.alloc ?_ _) | (with_reducible refine Up.drew ?_) | ((with_reducible refine Up.set ?_ ?_ _); rotate_left; focus (first | omega | (simp; done) | (simp; omega))) | (with_reducible refine Up.drewN ?_ _) | (with_reducible refine Up.call ?_ (by with_reducible assumption))))))).mono ?_); rintro e w3 ⟨x3, v3, hx3, rfl, hv3, hb3⟩ <;> (rw [H3.out] at hx3; subst hx3; obtain ⟨Ay, cy, Az, cz, rfl, ry, rz⟩ := own2E_ok hv3; have Ry := hid ry; have Rz := hid rz; clear hv3 ry rz)) <;> (have hle := Up.le hb3; (try simp only [World.size_alloc, World.size_setCell, World.size_drew, World.heap_drewN] at hle); clear hle))
                        | ((go_at_call 51; (with_reducible refine (bhull_any _ _ _ _ _ _ _ (Ry.out.up (by (repeat (first | (with_reducible exact Up.refl _) | (with_reducible assumption) | (with_reducible refine Up.alloc ?_ _) | (with_reducible refine Up.drew ?_) | ((with_reducible refine Up.set ?_ ?_ _); rotate_left; focus (first | omega | (simp; done) | (simp; omega))) | (with_reducible refine Up.drewN ?_ _) | (with_reducible refine Up.call ?_ (by with_reducible assumption)))))) (Rz.out.up (by (repeat (first | (with_reducible exact Up.refl _) | (with_reducible assumption) | (with_reducible refine Up.alloc ?_ _) | (with_reducible refine Up.drew ?_) | ((with_reducible refine Up.set ?_ ?_ _); rotate_left; focus (first | omega | (simp; done) | (simp; omega))) | (with_reducible refine Up.drewN ?_ _) | (with_reducible refine Up.call ?_ (by with_reducible assumption))))))).mono ?_); rintro e w6 ⟨x6, v6, hx6, rfl, hv6, hb6⟩ <;> (rw [H6.out] at hx6; subst hx6; obtain ⟨Ah, ch, rfl, rh⟩ := slE_read hv6; have Rh := hid rh; clear hv6 rh)) <;> (have hle := Up.le hb6; (try simp only [World.size_alloc, World.size_setCell, World.size_drew, World.heap_drewN] at hle); clear hle))
                        | ((go_at_call 42; have _n := hb4; clear _n; (with_reducible refine (bhas_any _ Ax (halvesF a).2 x _ cx _ (Rz.out.up (by (repeat (first | (with_reducible exact Up.refl _) | (with_reducible assumption) | (with_reducible refine Up.alloc ?_ _) | (with_reducible refine Up.drew ?_) | ((with_reducible refine Up.set ?_ ?_ _); rotate_left; focus (first | omega | (simp; done) | (simp; omega))) | (with_reducible refine Up.drewN ?_ _) | (with_reducible refine Up.call ?_ (by with_reducible assumption)))))) (Rx.out.up (by (repeat (first | (with_reducible exact Up.refl _) | (with_reducible assumption) | (with_reducible refine Up.alloc ?_ _) | (with_reducible refine Up.drew ?_) | ((with_reducible refine Up.set ?_ ?_ _); rotate_left; focus (first | omega | (simp; done) | (simp; omega))) | (with_reducible refine Up.drewN ?_ _) | (with_reducible refine Up.call ?_ (by with_reducible assumption))))))).mono ?_); rintro e w5 ⟨x5, hx5, rfl, hb5⟩ <;> (rw [H5.out] at hx5; subst hx5)) <;> (have hle := Up.le hb5; (try simp only [World.size_alloc, World.size_setCell, World.size_drew, World.heap_drewN] at hle); clear hle))
                        | ((go_at_call 42; have _n := hb3; clear _n; (with_reducible refine (bhas_any _ Ax (halvesF a).1 x _ cx _ (Ry.out.up (by (repeat (first | (with_reducible exact Up.refl _) | (with_reducible assumption) | (with_reducible refine Up.alloc ?_ _) | (with_reducible refine Up.drew ?_) | ((with_reducible refine Up.set ?_ ?_ _); rotate_left; focus (first | omega | (simp; done) | (simp; omega))) | (with_reducible refine Up.drewN ?_ _) | (with_reducible refine Up.call ?_ (by with_reducible assumption)))))) (Rx.out.up (by (repeat (first | (with_reducible exact Up.refl _) | (with_reducible assumption) | (with_reducible refine Up.alloc ?_ _) | (with_reducible refine Up.drew ?_) | ((with_reducible refine Up.set ?_ ?_ _); rotate_left; focus (first | omega | (simp; done) | (simp; omega))) | (with_reducible refine Up.drewN ?_ _) | (with_reducible refine Up.call ?_ (by with_reducible assumption))))))).mono ?_); rintro e w4 ⟨x4, hx4, rfl, hb4⟩ <;> (rw [H4.out] at hx4; subst hx4)) <;> (have hle := Up.le hb4; (try simp only [World.size_alloc, World.size_setCell, World.size_drew, World.heap_drewN] at hle); clear hle))
                        | ((go_at_call 45; (with_reducible refine (sbox_any _ _ a a _ _ _ (Rh.out.up (by (repeat (first | (with_reducible exact Up.refl _) | (with_reducible assumption) | (with_reducible refine Up.alloc ?_ _) | (with_reducible refine Up.drew ?_) | ((with_reducible refine Up.set ?_ ?_ _); rotate_left; focus (first | omega | (simp; done) | (simp; omega))) | (with_reducible refine Up.drewN ?_ _) | (with_reducible refine Up.call ?_ (by with_reducible assumption)))))) (Ra.out.up (by (repeat (first | (with_reducible exact Up.refl _) | (with_reducible assumption) | (with_reducible refine Up.alloc ?_ _) | (with_reducible refine Up.drew ?_) | ((with_reducible refine Up.set ?_ ?_ _); rotate_left; focus (first | omega | (simp; done) | (simp; omega))) | (with_reducible refine Up.drewN ?_ _) | (with_reducible refine Up.call ?_ (by with_reducible assumption)))))) Hla.out).mono ?_); rintro e w7 ⟨x7, hx7, rfl, hb7⟩ <;> (rw [decide_eq_true rfl] at hx7; subst hx7)) <;> (have hle := Up.le hb7; (try simp only [World.size_alloc, World.size_setCell, World.size_drew, World.heap_drewN] at hle); clear hle))
                        | ((go_at_call 44; (refine (HF.out _ _ (rds2 (by go_simp) (by go_simp) (by go_simp) (by go_simp))).mono ?_); rintro e w1 ⟨x1, v1, hx1, rfl, hv1, hb1⟩ <;> (rw [fact_halve] at hx1; subst hx1; obtain ⟨g, o, k, g', o', k', rfl, lg, lg', pa, pb, pc⟩ := fact_parts hv1; clear hv1)) <;> (have hle := Up.le hb1; (try simp only [World.size_alloc, World.size_setCell, World.size_drew, World.heap_drewN] at hle); clear hle)))
          all_goals
            go_ret
            refine LawEnd.mk rfl ?_
            (repeat (first | (with_reducible exact Up.refl _) | (with_reducible assumption) | (with_reducible refine Up.alloc ?_ _) | (with_reducible refine Up.drew ?_) | ((with_reducible refine Up.set ?_ ?_ _); rotate_left; focus (first | omega | (simp; done) | (simp; omega))) | (with_reducible refine Up.drewN ?_ _) | (with_reducible refine Up.call ?_ (by with_reducible assumption))))
      · have H12 := hid h12
        have H13 := hid h13
        clear h12 h13
        cases v <;> cases l <;> cases r <;> simp only [Bool.or_true, Bool.true_or, Bool.or_false, Bool.false_eq_true, Bool.true_eq_false] at hv
        all_goals
          clear hv
          cases u <;> simp only [Bool.and_true, Bool.and_false] at H13
        all_goals
          go_enter Try.func9, Try.ntmps9
          go_wp2_with (first
                        | ((go_at_call 42; have _n := hb7; clear _n; (with_reducible refine (bhas_any Ab Ax b x cb cx _ (Rb.out.up (by (repeat (first | (with_reducible exact Up.refl _) | (with_reducible assumption) | (with_reducible refine Up.alloc ?_ _) | (with_reducible refine Up.drew ?_) | ((with_reducible refine Up.set ?_ ?_ _); rotate_left; focus (first | omega | (simp; done) | (simp; omega))) | (with_reducible refine Up.drewN ?_ _) | (with_reducible refine Up.call ?_ (by with_reducible assumption)))))) (Rx.out.up (by (repeat (first | (with_reducible exact Up.refl _) | (with_reducible assumption) | (with_reducible refine Up.alloc ?_ _) | (with_reducible refine Up.drew ?_) | ((with_reducible refine Up.set ?_ ?_ _); rotate_left; focus (first | omega | (simp; done) | (simp; omega))) | (with_reducible refine Up.drewN ?_ _) | (with_reducible refine Up.call ?_ (by with_reducible assumption))))))).mono ?_); rintro e w8 ⟨x8, hx8, rfl, hb8⟩ <;> (rw [H8.out] at hx8; subst hx8)) <;> (have hle := Up.le hb8; (try simp only [World.size_alloc, World.size_setCell, World.size_drew, World.heap_drewN] at hle); clear hle))
                        | ((go_at_call 51; have _n := hb8; clear _n; (with_reducible refine (bhull_any Aa Ab a b ca cb _ (Ra.out.up (by (repeat (first | (with_reducible exact Up.refl _) | (with_reducible assumption) | (with_reducible refine Up.alloc ?_ _) | (with_reducible refine Up.drew ?_) | ((with_reducible refine Up.set ?_ ?_ _); rotate_left; focus (first | omega | (simp; done) | (simp; omega))) | (with_reducible refine Up.drewN ?_ _) | (with_reducible refine Up.call ?_ (by with_reducible assumption)))))) (Rb.out.up (by (repeat (first | (with_reducible exact Up.refl _) | (with_reducible assumption) | (with_reducible refine Up.alloc ?_ _) | (with_reducible refine Up.drew ?_) | ((with_reducible refine Up.set ?_ ?_ _); rotate_left; focus (first | omega | (simp; done) | (simp; omega))) | (with_reducible refine Up.drewN ?_ _) | (with_reducible refine Up.call ?_ (by with_reducible assumption))))))).mono ?_); rintro e w9 ⟨x9, v9, hx9, rfl, hv9, hb9⟩ <;> (rw [H9.out] at hx9; subst hx9; obtain ⟨Aw, cw, rfl, rw9⟩ := slE_read hv9; have Rw := hid rw9; clear hv9 rw9)) <;> (have hle := Up.le hb9; (try simp only [World.size_alloc, World.size_setCell, World.size_drew, World.heap_drewN] at hle); clear hle))
                        | ((go_at_call 52; have _n := hb9; clear _n; (with_reducible refine (within_any Aa _ a wl ca _ _ (Ra.out.up (by (repeat (first | (with_reducible exact Up.refl _) | (with_reducible assumption) | (with_reducible refine Up.alloc ?_ _) | (with_reducible refine Up.drew ?_) | ((with_reducible refine Up.set ?_ ?_ _); rotate_left; focus (first | omega | (simp; done) | (simp; omega))) | (with_reducible refine Up.drewN ?_ _) | (with_reducible refine Up.call ?_ (by with_reducible assumption)))))) (Rw.out.up (by (repeat (first | (with_reducible exact Up.refl _) | (with_reducible assumption) | (with_reducible refine Up.alloc ?_ _) | (with_reducible refine Up.drew ?_) | ((with_reducible refine Up.set ?_ ?_ _); rotate_left; focus (first | omega | (simp; done) | (simp; omega))) | (with_reducible refine Up.drewN ?_ _) | (with_reducible refine Up.call ?_ (by with_reducible assumption))))))).mono ?_); rintro e w10 ⟨x10, hx10, rfl, hb10⟩ <;> (rw [H10.out] at hx10; subst hx10)) <;> (have hle := Up.le hb10; (try simp only [World.size_alloc, World.size_setCell, World.size_drew, World.heap_drewN] at hle); clear hle))
                        | ((go_at_call 52; have _n := hb10; clear _n; (with_reducible refine (within_any Ab _ b wl cb _ _ (Rb.out.up (by (repeat (first | (with_reducible exact Up.refl _) | (with_reducible assumption) | (with_reducible refine Up.alloc ?_ _) | (with_reducible refine Up.drew ?_) | ((with_reducible refine Up.set ?_ ?_ _); rotate_left; focus (first | omega | (simp; done) | (simp; omega))) | (with_reducible refine Up.drewN ?_ _) | (with_reducible refine Up.call ?_ (by with_reducible assumption)))))) (Rw.out.up (by (repeat (first | (with_reducible exact Up.refl _) | (with_reducible assumption) | (with_reducible refine Up.alloc ?_ _) | (with_reducible refine Up.drew ?_) | ((with_reducible refine Up.set ?_ ?_ _); rotate_left; focus (first | omega | (simp; done) | (simp; omega))) | (with_reducible refine Up.drewN ?_ _) | (with_reducible refine Up.call ?_ (by with_reducible assumption))))))).mono ?_); rintro e w11 ⟨x11, hx11, rfl, hb11⟩ <;> (rw [H11.out] at hx11; subst hx11)) <;> (have hle := Up.le hb11; (try simp only [World.size_alloc, World.size_setCell, World.size_drew, World.heap_drewN] at hle); clear hle))
                        | ((go_at_call 53; (with_reducible refine (bmeet_any Aa Ab a b ca cb _ (Ra.out.up (by (repeat (first | (with_reducible exact Up.refl _) | (with_reducible assumption) | (with_reducible refine Up.alloc ?_ _) | (with_reducible refine Up.drew ?_) | ((with_reducible refine Up.set ?_ ?_ _); rotate_left; focus (first | omega | (simp; done) | (simp; omega))) | (with_reducible refine Up.drewN ?_ _) | (with_reducible refine Up.call ?_ (by with_reducible assumption)))))) (Rb.out.up (by (repeat (first | (with_reducible exact Up.refl _) | (with_reducible assumption) | (with_reducible refine Up.alloc ?_ _) | (with_reducible refine Up.drew ?_) | ((with_reducible refine Up.set ?_ ?_ _); rotate_left; focus (first | omega | (simp; done) | (simp; omega))) | (with_reducible refine Up.drewN ?_ _) | (with_reducible refine Up.call ?_ (by with_reducible assumption))))))).mono ?_); rintro e w12 ⟨x12, v12, hx12, rfl, hv12, hb12⟩ <;> (rw [H12.out] at hx12; subst hx12; obtain ⟨Am, cm, rfl, rm⟩ := slE_read hv12; have Rm := hid rm; clear hv12 rm)) <;> (have hle := Up.le hb12; (try simp only [World.size_alloc, World.size_setCell, World.size_drew, World.heap_drewN] at hle); clear hle))
                        | ((go_at_call 42; have _n := hb12; clear _n; (with_reducible refine (bhas_any _ Ax m x _ cx _ (Rm.out.up (by (repeat (first | (with_reducible exact Up.refl _) | (with_reducible assumption) | (with_reducible refine Up.alloc ?_ _) | (with_reducible refine Up.drew ?_) | ((with_reducible refine Up.set ?_ ?_ _); rotate_left; focus (first | omega | (simp; done) | (simp; omega))) | (with_reducible refine Up.drewN ?_ _) | (with_reducible refine Up.call ?_ (by with_reducible assumption)))))) (Rx.out.up (by (repeat (first | (with_reducible exact Up.refl _) | (with_reducible assumption) | (with_reducible refine Up.alloc ?_ _) | (with_reducible refine Up.drew ?_) | ((with_reducible refine Up.set ?_ ?_ _); rotate_left; focus (first | omega | (simp; done) | (simp; omega))) | (with_reducible refine Up.drewN ?_ _) | (with_reducible refine Up.call ?_ (by with_reducible assumption))))))).mono ?_); rintro e w13 ⟨x13, hx13, rfl, hb13⟩ <;> (rw [H13.out] at hx13; subst hx13)) <;> (have hle := Up.le hb13; (try simp only [World.size_alloc, World.size_setCell, World.size_drew, World.heap_drewN] at hle); clear hle))
                        | ((go_at_call 42; (with_reducible refine (bhas_any Aa Ax a x ca cx _ (Ra.out.up (by (repeat (first | (with_reducible exact Up.refl _) | (with_reducible assumption) | (with_reducible refine Up.alloc ?_ _) | (with_reducible refine Up.drew ?_) | ((with_reducible refine Up.set ?_ ?_ _); rotate_left; focus (first | omega | (simp; done) | (simp; omega))) | (with_reducible refine Up.drewN ?_ _) | (with_reducible refine Up.call ?_ (by with_reducible assumption)))))) (Rx.out.up (by (repeat (first | (with_reducible exact Up.refl _) | (with_reducible assumption) | (with_reducible refine Up.alloc ?_ _) | (with_reducible refine Up.drew ?_) | ((with_reducible refine Up.set ?_ ?_ _); rotate_left; focus (first | omega | (simp; done) | (simp; omega))) | (with_reducible refine Up.drewN ?_ _) | (with_reducible refine Up.call ?_ (by with_reducible assumption))))))).mono ?_); rintro e w2 ⟨x2, hx2, rfl, hb2⟩ <;> (rw [H2.out] at hx2; subst hx2)) <;> (have hle := Up.le hb2; (try simp only [World.size_alloc, World.size_setCell, World.size_drew, World.heap_drewN] at hle); clear hle))
                        | ((go_at_call 44; (with_reducible refine (halve_any Aa a ca _ (Ra.out.up (by (repeat (first | (with_reducible exact Up.refl _) | (with_reducible assumption) | (with_reducible refine Up.alloc ?_ _) | (with_reducible refine Up.drew ?_) | ((with_reducible refine Up.set ?_ ?_ _); rotate_left; focus (first | omega | (simp; done) | (simp; omega))) | (with_reducible refine Up.drewN ?_ _) | (with_reducible refine Up.call ?_ (by with_reducible assumption))))))).mono ?_); rintro e w3 ⟨x3, v3, hx3, rfl, hv3, hb3⟩ <;> (rw [H3.out] at hx3; subst hx3; obtain ⟨Ay, cy, Az, cz, rfl, ry, rz⟩ := own2E_ok hv3; have Ry := hid ry; have Rz := hid rz; clear hv3 ry rz)) <;> (have hle := Up.le hb3; (try simp only [World.size_alloc, World.size_setCell, World.size_drew, World.heap_drewN] at hle); clear hle))
                        | ((go_at_call 51; (with_reducible refine (bhull_any _ _ _ _ _ _ _ (Ry.out.up (by (repeat (first | (with_reducible exact Up.refl _) | (with_reducible assumption) | (with_reducible refine Up.alloc ?_ _) | (with_reducible refine Up.drew ?_) | ((with_reducible refine Up.set ?_ ?_ _); rotate_left; focus (first | omega | (simp; done) | (simp; omega))) | (with_reducible refine Up.drewN ?_ _) | (with_reducible refine Up.call ?_ (by with_reducible assumption)))))) (Rz.out.up (by (repeat (first | (with_reducible exact Up.refl _) | (with_reducible assumption) | (with_reducible refine Up.alloc ?_ _) | (with_reducible refine Up.drew ?_) | ((with_reducible refine Up.set ?_ ?_ _); rotate_left; focus (first | omega | (simp; done) | (simp; omega))) | (with_reducible refine Up.drewN ?_ _) | (with_reducible refine Up.call ?_ (by with_reducible assumption))))))).mono ?_); rintro e w6 ⟨x6, v6, hx6, rfl, hv6, hb6⟩ <;> (rw [H6.out] at hx6; subst hx6; obtain ⟨Ah, ch, rfl, rh⟩ := slE_read hv6; have Rh := hid rh; clear hv6 rh)) <;> (have hle := Up.le hb6; (try simp only [World.size_alloc, World.size_setCell, World.size_drew, World.heap_drewN] at hle); clear hle))
                        | ((go_at_call 42; have _n := hb4; clear _n; (with_reducible refine (bhas_any _ Ax (halvesF a).2 x _ cx _ (Rz.out.up (by (repeat (first | (with_reducible exact Up.refl _) | (with_reducible assumption) | (with_reducible refine Up.alloc ?_ _) | (with_reducible refine Up.drew ?_) | ((with_reducible refine Up.set ?_ ?_ _); rotate_left; focus (first | omega | (simp; done) | (simp; omega))) | (with_reducible refine Up.drewN ?_ _) | (with_reducible refine Up.call ?_ (by with_reducible assumption)))))) (Rx.out.up (by (repeat (first | (with_reducible exact Up.refl _) | (with_reducible assumption) | (with_reducible refine Up.alloc ?_ _) | (with_reducible refine Up.drew ?_) | ((with_reducible refine Up.set ?_ ?_ _); rotate_left; focus (first | omega | (simp; done) | (simp; omega))) | (with_reducible refine Up.drewN ?_ _) | (with_reducible refine Up.call ?_ (by with_reducible assumption))))))).mono ?_); rintro e w5 ⟨x5, hx5, rfl, hb5⟩ <;> (rw [H5.out] at hx5; subst hx5)) <;> (have hle := Up.le hb5; (try simp only [World.size_alloc, World.size_setCell, World.size_drew, World.heap_drewN] at hle); clear hle))
                        | ((go_at_call 42; have _n := hb3; clear _n; (with_reducible refine (bhas_any _ Ax (halvesF a).1 x _ cx _ (Ry.out.up (by (repeat (first | (with_reducible exact Up.refl _) | (with_reducible assumption) | (with_reducible refine Up.alloc ?_ _) | (with_reducible refine Up.drew ?_) | ((with_reducible refine Up.set ?_ ?_ _); rotate_left; focus (first | omega | (simp; done) | (simp; omega))) | (with_reducible refine Up.drewN ?_ _) | (with_reducible refine Up.call ?_ (by with_reducible assumption)))))) (Rx.out.up (by (repeat (first | (with_reducible exact Up.refl _) | (with_reducible assumption) | (with_reducible refine Up.alloc ?_ _) | (with_reducible refine Up.drew ?_) | ((with_reducible refine Up.set ?_ ?_ _); rotate_left; focus (first | omega | (simp; done) | (simp; omega))) | (with_reducible refine Up.drewN ?_ _) | (with_reducible refine Up.call ?_ (by with_reducible assumption))))))).mono ?_); rintro e w4 ⟨x4, hx4, rfl, hb4⟩ <;> (rw [H4.out] at hx4; subst hx4)) <;> (have hle := Up.le hb4; (try simp only [World.size_alloc, World.size_setCell, World.size_drew, World.heap_drewN] at hle); clear hle))
                        | ((go_at_call 45; (with_reducible refine (sbox_any _ _ a a _ _ _ (Rh.out.up (by (repeat (first | (with_reducible exact Up.refl _) | (with_reducible assumption) | (with_reducible refine Up.alloc ?_ _) | (with_reducible refine Up.drew ?_) | ((with_reducible refine Up.set ?_ ?_ _); rotate_left; focus (first | omega | (simp; done) | (simp; omega))) | (with_reducible refine Up.drewN ?_ _) | (with_reducible refine Up.call ?_ (by with_reducible assumption)))))) (Ra.out.up (by (repeat (first | (with_reducible exact Up.refl _) | (with_reducible assumption) | (with_reducible refine Up.alloc ?_ _) | (with_reducible refine Up.drew ?_) | ((with_reducible refine Up.set ?_ ?_ _); rotate_left; focus (first | omega | (simp; done) | (simp; omega))) | (with_reducible refine Up.drewN ?_ _) | (with_reducible refine Up.call ?_ (by with_reducible assumption)))))) Hla.out).mono ?_); rintro e w7 ⟨x7, hx7, rfl, hb7⟩ <;> (rw [decide_eq_true rfl] at hx7; subst hx7)) <;> (have hle := Up.le hb7; (try simp only [World.size_alloc, World.size_setCell, World.size_drew, World.heap_drewN] at hle); clear hle))
                        | ((go_at_call 44; (refine (HF.out _ _ (rds2 (by go_simp) (by go_simp) (by go_simp) (by go_simp))).mono ?_); rintro e w1 ⟨x1, v1, hx1, rfl, hv1, hb1⟩ <;> (rw [fact_halve] at hx1; subst hx1; obtain ⟨g, o, k, g', o', k', rfl, lg, lg', pa, pb, pc⟩ := fact_parts hv1; clear hv1)) <;> (have hle := Up.le hb1; (try simp only [World.size_alloc, World.size_setCell, World.size_drew, World.heap_drewN] at hle); clear hle)))
          all_goals
            go_ret
            refine LawEnd.mk rfl ?_
            (repeat (first | (with_reducible exact Up.refl _) | (with_reducible assumption) | (with_reducible refine Up.alloc ?_ _) | (with_reducible refine Up.drew ?_) | ((with_reducible refine Up.set ?_ ?_ _); rotate_left; focus (first | omega | (simp; done) | (simp; omega))) | (with_reducible refine Up.drewN ?_ _) | (with_reducible refine Up.call ?_ (by with_reducible assumption))))
set_option maxRecDepth 100000 in
theorem boxParts_lifted (os : Os) (started : os.Started) (H : Type) (enc : TypeId × Value → H) :
    ReturnsInHanded {} Try.checked os 9 .any (Rows.boxPartsSpec.pre6 enc Try.prog Try.f9 Rows.boxPartsRow.domain false) (Rows.boxPartsSpec.post enc Try.prog Try.f9 false true false false) := by
  refine returnsInHanded_of_change (C := Try.checked) Try.own started (by kernel_rfl) Try.func9
    (ChangeSpec.witness6 (enc := enc) (C := Try.checked) false ⟨#[], #[.slice none 0 0, .slice none 0 0, .slice none 0 0], []⟩ 8 (by kernel_rfl) (by kernel_rfl) (by kernel_rfl) (by kernel_rfl)) ?_
  intro W base args ds gs before hval0 hW hcnd _
  have hval : ∀ (j : Nat) t v, Try.f9.params[j]? = some t → args[j]? = some v → Value.okWide Try.prog W .any base t v := hval0
  have hW' := hW
  obtain ⟨p, q, hA0, hV, rfl, hfz, hnd⟩ := hW
  have hA : DataW.TrodAll enc Try.prog W 0 (fun _ => true) true Try.f9.params.toList args.toList ds p := hA0
  rw [Try.params9] at hA hval
  obtain ⟨v0, v1, v2, d0, d1, d2, p0, p1, p2, rfl, rfl, rfl, h0, h1, h2⟩ := trodAll_three hA
  obtain ⟨rfl, rfl⟩ := trodVars_none hV
  obtain ⟨A0, b0, c0, rfl, w0⟩ := open_slist (ti := 3) Try.underlying39 Try.underlying27 Try.cellsSpan rfl rfl rfl rfl Try.underlying3 Try.cellsInt (hval 0 39 _ rfl rfl) h0
  obtain ⟨A1, b1, c1, rfl, w1⟩ := open_slist (ti := 3) Try.underlying39 Try.underlying27 Try.cellsSpan rfl rfl rfl rfl Try.underlying3 Try.cellsInt (hval 1 39 _ rfl rfl) h1
  obtain ⟨A2, l2, c2, rfl, w2⟩ := open_ilist Try.underlying38 Try.underlying3 Try.cellsInt (hval 2 38 _ rfl rfl) h2
  clear hA0 hval0
  refine (boxParts_walk A0 b0 c0 A1 b1 c1 A2 l2 c2 W w0 w1 w2).mono fun e W' ⟨he, hu⟩ => ?_
  subst he
  exact ⟨_, rfl, law_post Try.laidOut rfl rfl Try.underlying4 (fun t ht => by simp [Try.params9] at ht; (try rcases ht with rfl | rfl); all_goals (first | (subst ht; exact ⟨by kernel_rfl, of_decide_eq_true (by kernel_rfl)⟩) | exact ⟨by kernel_rfl, of_decide_eq_true (by kernel_rfl)⟩)) hW' rfl rfl rfl hu⟩
theorem boxParts_k1 : (Rows.boxPartsRow.inPlace == Try.pinned.checked.prog.inPlace 9) = true := by kernel_rfl
theorem boxParts_k2 : (Rows.boxPartsRow.unfollowed == Try.pinned.checked.prog.unfollowed 9) = true := by kernel_rfl
theorem boxParts_k3 : (Rows.boxPartsRow.recurses == Try.pinned.checked.prog.recurses 9) = true := by kernel_rfl
theorem boxParts_k4 : (Rows.boxPartsRow.named == Try.pinned.checked.prog.varsNamed 9) = true := by kernel_rfl
theorem boxParts_facts : joinedFacts Try.pinned.checked.prog 9 Try.f9 Rows.boxPartsSpec Rows.boxPartsRow = true :=
  joined_of _ _ _ _ _ Try.g1 Try.g2 Try.g3 Try.g4 Try.g5 Try.g6 Try.g7 Try.g8 Try.g9 boxParts_k1 boxParts_k2 boxParts_k3 boxParts_k4 (by kernel_rfl)
theorem boxParts_holds : Rows.BoxPartsSaid :=
  OpenClaim.holds_of_wide 9 Try.f9 rfl rfl rfl rfl rfl rfl rfl ⟨rfl, rfl, rfl, rfl, rfl⟩ rfl rfl rfl rfl rfl (by kernel_rfl) Try.func9 boxParts_facts
    (of_decide_eq_true (by kernel_rfl)) (by unfold Func.isWrapper; rw [if_neg (by decide +kernel)]; exact ⟨rfl, rfl⟩)
    (fun os started H enc _ => boxParts_lifted os started H enc)
#print axioms boxParts_holds
end Go.Proofs.Ytmnbgcbiaapldaa
