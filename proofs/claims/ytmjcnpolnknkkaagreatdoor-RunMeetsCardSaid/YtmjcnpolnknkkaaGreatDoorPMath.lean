/- Plain definitions, no program in sight: what the functions of the program compute, on integers and lists. Plain definitions, no program in sight: what the functions of the program compute: roots, boxes, forms, systems. -/
set_option linter.unusedVariables false
set_option linter.unusedSimpArgs false
namespace Go.Proofs.YtmjcnpolnknkkaaGreatDoor

/-- A span of thousandths. -/
structure Sp where
  lo : Int
  hi : Int
deriving DecidableEq, Inhabited

/-- A term of a form: its factor, and how often each of three unknowns stands in it. -/
structure Tm where
  by_ : Int
  t0 : Int
  t1 : Int
  t2 : Int
deriving DecidableEq, Inhabited

theorem Sp.ext' {a b : Sp} (h1 : a.lo = b.lo) (h2 : a.hi = b.hi) : a = b := by
  cases a; cases b; simp_all

/-- May a number be? -/
def M (n : Int) : Prop := -1000000000 ≤ n ∧ n ≤ 1000000000
instance (n : Int) : Decidable (M n) := by unfold M; infer_instance
def mayB (n : Int) : Bool := decide (-1000000000 ≤ n) && decide (n ≤ 1000000000)
theorem mayB_true {n : Int} : mayB n = true ↔ M n := by simp [mayB, M]
theorem mayB_false {n : Int} : mayB n = false ↔ ¬ M n := by rw [← mayB_true]; simp

/-- Right spans. -/
def Rt (a : Sp) : Prop := M a.lo ∧ M a.hi ∧ a.lo ≤ a.hi
instance (a : Sp) : Decidable (Rt a) := by unfold Rt; infer_instance

def checkF (a : Sp) : Option Nat := if ¬ (M a.lo ∧ M a.hi) then some 1 else if a.hi < a.lo then some 3 else none
theorem checkF_none {a : Sp} : checkF a = none ↔ Rt a := by
  unfold checkF Rt
  by_cases h : M a.lo ∧ M a.hi
  · by_cases h2 : a.hi < a.lo
    · simp [h, h2]
    · simp [h, h2]; omega
  · simp [h]; intro h1 h2; exact absurd ⟨h1, h2⟩ h
def fitsF (s : Sp) : Except Nat Sp := if M s.lo ∧ M s.hi then .ok s else .error 4
def zeroF (a : Sp) : Bool := decide (a.lo ≤ 0) && decide (0 ≤ a.hi)
def sumF (a b : Sp) : Except Nat Sp := fitsF ⟨a.lo + b.lo, a.hi + b.hi⟩
def restF (a b : Sp) : Except Nat Sp := fitsF ⟨a.lo - b.hi, a.hi - b.lo⟩
/-- rounded down, and up, by a number above 0 -/
def dn (n k : Int) : Int := n / k
def up (n k : Int) : Int := -((-n) / k)
def pdn (x y : Int) : Int := dn (x * y) 1000
def pup (x y : Int) : Int := up (x * y) 1000
def qdn (x y : Int) : Int := if y < 0 then dn (-x * 1000) (-y) else dn (x * 1000) y
def qup (x y : Int) : Int := if y < 0 then up (-x * 1000) (-y) else up (x * 1000) y
def min4 (a b c d : Int) : Int := min (min (min a b) c) d
def max4 (a b c d : Int) : Int := max (max (max a b) c) d
def cornersF (f g : Int → Int → Int) (a b : Sp) : Except Nat Sp :=
  fitsF ⟨min4 (f a.lo b.lo) (f a.lo b.hi) (f a.hi b.lo) (f a.hi b.hi), max4 (g a.lo b.lo) (g a.lo b.hi) (g a.hi b.lo) (g a.hi b.hi)⟩
def prodF (a b : Sp) : Except Nat Sp := cornersF pdn pup a b
def quoF (a b : Sp) : Except Nat Sp := if zeroF b then .error 8 else cornersF qdn qup a b
def bothF (a b : Sp) : Sp := ⟨min a.lo b.lo, max a.hi b.hi⟩
def comF (a b : Sp) : Except Nat Sp := if min a.hi b.hi < max a.lo b.lo then .error 5 else .ok ⟨max a.lo b.lo, min a.hi b.hi⟩
def twoF (f : Sp → Sp → Except Nat Sp) (a b : Sp) : Except Nat Sp :=
  match checkF a with
  | some e => .error e
  | none => match checkF b with
    | some e => .error e
    | none => f a b

-- power
def apartF (a : Sp) : Int × Int := (if zeroF a then 0 else max a.lo (-a.hi), max a.hi (-a.lo))
def halfF (a : Sp) : Int := dn (a.lo + a.hi) 2
def againF (n : Int) : Nat → Except Nat (Int × Int)
  | 0 => .ok (1000, 1000)
  | t + 1 => match againF n t with
    | .error e => .error e
    | .ok (lo, hi) => if M (pup hi n) then .ok (pdn lo n, pup hi n) else .error 4
/-- downward and upward; on an error both are as the program hands them on: 0 -/
def signedF (n : Int) (t : Nat) : Except Nat (Int × Int) :=
  if 0 ≤ n then againF n t else match againF (-n) t with
    | .error e => .error e
    | .ok (lo, hi) => .ok (-hi, -lo)
def raisedG (p : Int × Int) (t : Nat) : Except Nat Sp := match signedF p.1 t with
  | .error e => .error e
  | .ok x => match signedF p.2 t with
    | .error e => .error e
    | .ok y => .ok ⟨x.1, y.2⟩
def raisedF (a : Sp) (t : Nat) : Except Nat Sp := raisedG (if t % 2 = 0 then apartF a else (a.lo, a.hi)) t
def powerF (a : Sp) (n : Int) : Except Nat Sp :=
  match checkF a with
  | some e => .error e
  | none => if n < 0 ∨ 4 < n then .error 1 else raisedF a n.toNat

-- poly
def pcheckF (p : List Int) : Option Nat :=
  if p.length = 0 then some 5 else if 5 < p.length then some 4 else if ∀ n ∈ p, M n then none else some 1
def pbothF (p : List Int) (x : Sp) : Option Nat := match pcheckF p with
  | some e => some e
  | none => checkF x
/-- Horner's way: the factors from that of the power 0 on; the last one is the start. -/
def nestedF (x : Sp) : List Int → Except Nat Sp
  | [] => .ok ⟨0, 0⟩
  | [n] => .ok ⟨n, n⟩
  | n :: m :: p => match nestedF x (m :: p) with
    | .error e => .error e
    | .ok s => match prodF s x with
      | .error e => .error e
      | .ok t => sumF t ⟨n, n⟩
def orErr {α : Type} (c : Option Nat) (r : Except Nat α) : Except Nat α := match c with
  | some e => .error e
  | none => r
/-- by powers: k: the power of the head; s: what has been added up. -/
def addedF (x : Sp) : Nat → Sp → List Int → Except Nat Sp
  | _, s, [] => .ok s
  | k, s, n :: p => match raisedF x k with
    | .error e => .error e
    | .ok r => match prodF ⟨n, n⟩ r with
      | .error e => .error e
      | .ok t => match sumF s t with
        | .error e => .error e
        | .ok s' => addedF x (k + 1) s' p
/-- the factors but the first, each times its power; k: the power of the head -/
def slopeG : Nat → List Int → Except Nat (List Int)
  | _, [] => .ok []
  | k, n :: p => if M (n * k) then match slopeG (k + 1) p with
      | .error e => .error e
      | .ok l => .ok (n * k :: l)
    else .error 4
def slopeF (p : List Int) : Except Nat (List Int) := if p.length = 1 then .ok [0] else slopeG 1 p.tail
-- center
def steepF (p : List Int) (x : Sp) : Except Nat Sp := match slopeF p with
  | .error e => .error e
  | .ok d => nestedF x d
def aroundF (p : List Int) (x : Sp) : Except Nat Sp := match nestedF ⟨halfF x, halfF x⟩ p with
  | .error e => .error e
  | .ok at_ => match steepF p x with
    | .error e => .error e
    | .ok d => match restF x ⟨halfF x, halfF x⟩ with
      | .error e => .error e
      | .ok far => match prodF d far with
        | .error e => .error e
        | .ok df => sumF at_ df
def tightF (p : List Int) (x : Sp) : Except Nat Sp := match nestedF x p with
  | .error e => .error e
  | .ok a => match addedF x 0 ⟨0, 0⟩ p with
    | .error e => .error e
    | .ok b => match comF a b with
      | .error e => .error e
      | .ok ab => match aroundF p x with
        | .error e => .error e
        | .ok c => comF ab c
-- mono
def wayF (d : Sp) : Int := if 0 ≤ d.lo then 1 else if d.hi ≤ 0 then -1 else 0
def overF (p : List Int) (x : Sp) : Except Nat Sp := match tightF p x with
  | .error e => .error e
  | .ok best => match steepF p x with
    | .error e => .error e
    | .ok d => if wayF d = 0 then .ok best else
      let f := if wayF d = -1 then x.hi else x.lo
      let t := if wayF d = -1 then x.lo else x.hi
      match nestedF ⟨f, f⟩ p with
      | .error e => .error e
      | .ok a => match nestedF ⟨t, t⟩ p with
        | .error e => .error e
        | .ok b => .ok ⟨a.lo, b.hi⟩
def mrangeF (p : List Int) (x : Sp) : Except Nat Sp := orErr (pbothF p x) (overF p x)

-- split
end Go.Proofs.YtmjcnpolnknkkaaGreatDoor

namespace Go.Proofs.YtmjcnpolnknkkaaGreatDoor

-- root
/-- f: fuel: the width of the span is enough -/
def findG (p : List Int) (least : Int) : Nat → Sp → List Sp → Except Nat (List Sp)
  | f, x, out => match overF p x with
    | .error e => .error e
    | .ok s => if zeroF s = false then .ok out else if x.hi - x.lo ≤ least then (if out.length = 32 then .error 4 else .ok (out ++ [x])) else
      match f with
      | 0 => .error 0
      | f + 1 => match findG p least f ⟨x.lo, halfF x⟩ out with
        | .error e => .error e
        | .ok o => findG p least f ⟨halfF x, x.hi⟩ o
def findF (p : List Int) (x : Sp) (least : Int) : Except Nat (List Sp) :=
  orErr (pbothF p x) (if least < 1 ∨ 1000000000 < least then .error 1 else findG p least (x.hi - x.lo).toNat x [])
-- newton
def nearerF (p : List Int) (x : Sp) : Except Nat Sp := match nestedF ⟨halfF x, halfF x⟩ p with
  | .error e => .error e
  | .ok at_ => match steepF p x with
    | .error e => .error e
    | .ok d => match quoF at_ d with
      | .error e => .error e
      | .ok q => match restF ⟨halfF x, halfF x⟩ q with
        | .error e => .error e
        | .ok s => comF s x
def nrunG (p : List Int) : Nat → Sp → Except Nat Sp
  | 0, x => .ok x
  | n + 1, x => match nearerF p x with
    | .error e => .error e
    | .ok s => if s = x then .ok x else nrunG p n s
def nrunF (p : List Int) (x : Sp) (steps : Int) : Except Nat Sp :=
  if steps < 0 ∨ 20 < steps then .error 1 else orErr (pbothF p x) (nrunG p steps.toNat x)

-- box
-- form
def Sm (n : Int) : Prop := -20000 ≤ n ∧ n ≤ 20000
instance (n : Int) : Decidable (Sm n) := by unfold Sm; infer_instance
-- step
structure Sy where
  next : List (List Tm)
  push : List Sp
deriving Inhabited
-- flow
-- cover
-- hold
-- safe
-- narrow
-- near
end Go.Proofs.YtmjcnpolnknkkaaGreatDoor
