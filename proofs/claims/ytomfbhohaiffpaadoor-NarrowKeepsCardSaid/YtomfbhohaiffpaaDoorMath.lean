/- Plain definitions, no program in sight: what the functions of the program compute, on integers and lists. Plain definitions, no program in sight: what the functions of the program compute: roots, boxes, forms, systems. -/
set_option linter.unusedVariables false
set_option linter.unusedSimpArgs false
namespace Go.Proofs.YtomfbhohaiffpaaDoor

/-- A span of thousandths. -/
structure Sp where
  lo : Int
  hi : Int
deriving DecidableEq, Inhabited

/-- A term of a form: its factor, and how often each of three unknowns stands in it. -/
structure Tm where
  by_ : Int
  t0 : Int
  t1 : Int
  t2 : Int
deriving DecidableEq, Inhabited

theorem Sp.ext' {a b : Sp} (h1 : a.lo = b.lo) (h2 : a.hi = b.hi) : a = b := by
  cases a; cases b; simp_all

/-- May a number be? -/
def M (n : Int) : Prop := -1000000000 ≤ n ∧ n ≤ 1000000000
instance (n : Int) : Decidable (M n) := by unfold M; infer_instance
def mayB (n : Int) : Bool := decide (-1000000000 ≤ n) && decide (n ≤ 1000000000)
theorem mayB_true {n : Int} : mayB n = true ↔ M n := by simp [mayB, M]
theorem mayB_false {n : Int} : mayB n = false ↔ ¬ M n := by rw [← mayB_true]; simp

/-- Right spans. -/
def Rt (a : Sp) : Prop := M a.lo ∧ M a.hi ∧ a.lo ≤ a.hi
instance (a : Sp) : Decidable (Rt a) := by unfold Rt; infer_instance

def checkF (a : Sp) : Option Nat := if ¬ (M a.lo ∧ M a.hi) then some 1 else if a.hi < a.lo then some 3 else none
theorem checkF_none {a : Sp} : checkF a = none ↔ Rt a := by
  unfold checkF Rt
  by_cases h : M a.lo ∧ M a.hi
  · by_cases h2 : a.hi < a.lo
    · simp [h, h2]
    · simp [h, h2]; omega
  · simp [h]; intro h1 h2; exact absurd ⟨h1, h2⟩ h
def fitsF (s : Sp) : Except Nat Sp := if M s.lo ∧ M s.hi then .ok s else .error 4
def zeroF (a : Sp) : Bool := decide (a.lo ≤ 0) && decide (0 ≤ a.hi)
def sumF (a b : Sp) : Except Nat Sp := fitsF ⟨a.lo + b.lo, a.hi + b.hi⟩
def restF (a b : Sp) : Except Nat Sp := fitsF ⟨a.lo - b.hi, a.hi - b.lo⟩
/-- rounded down, and up, by a number above 0 -/
def dn (n k : Int) : Int := n / k
def up (n k : Int) : Int := -((-n) / k)
def pdn (x y : Int) : Int := dn (x * y) 1000
def pup (x y : Int) : Int := up (x * y) 1000
def qdn (x y : Int) : Int := if y < 0 then dn (-x * 1000) (-y) else dn (x * 1000) y
def qup (x y : Int) : Int := if y < 0 then up (-x * 1000) (-y) else up (x * 1000) y
def min4 (a b c d : Int) : Int := min (min (min a b) c) d
def max4 (a b c d : Int) : Int := max (max (max a b) c) d
def cornersF (f g : Int → Int → Int) (a b : Sp) : Except Nat Sp :=
  fitsF ⟨min4 (f a.lo b.lo) (f a.lo b.hi) (f a.hi b.lo) (f a.hi b.hi), max4 (g a.lo b.lo) (g a.lo b.hi) (g a.hi b.lo) (g a.hi b.hi)⟩
def prodF (a b : Sp) : Except Nat Sp := cornersF pdn pup a b
def quoF (a b : Sp) : Except Nat Sp := if zeroF b then .error 8 else cornersF qdn qup a b
def bothF (a b : Sp) : Sp := ⟨min a.lo b.lo, max a.hi b.hi⟩
def comF (a b : Sp) : Except Nat Sp := if min a.hi b.hi < max a.lo b.lo then .error 5 else .ok ⟨max a.lo b.lo, min a.hi b.hi⟩
def twoF (f : Sp → Sp → Except Nat Sp) (a b : Sp) : Except Nat Sp :=
  match checkF a with
  | some e => .error e
  | none => match checkF b with
    | some e => .error e
    | none => f a b

-- power
def apartF (a : Sp) : Int × Int := (if zeroF a then 0 else max a.lo (-a.hi), max a.hi (-a.lo))
def farF (a : Sp) : Except Nat (Int × Int) := match checkF a with
  | some e => .error e
  | none => .ok (apartF a)
def halfF (a : Sp) : Int := dn (a.lo + a.hi) 2
def middleF (a : Sp) : Except Nat Int := match checkF a with
  | some e => .error e
  | none => .ok (halfF a)
def againF (n : Int) : Nat → Except Nat (Int × Int)
  | 0 => .ok (1000, 1000)
  | t + 1 => match againF n t with
    | .error e => .error e
    | .ok (lo, hi) => if M (pup hi n) then .ok (pdn lo n, pup hi n) else .error 4
/-- downward and upward; on an error both are as the program hands them on: 0 -/
def signedF (n : Int) (t : Nat) : Except Nat (Int × Int) :=
  if 0 ≤ n then againF n t else match againF (-n) t with
    | .error e => .error e
    | .ok (lo, hi) => .ok (-hi, -lo)
def raisedG (p : Int × Int) (t : Nat) : Except Nat Sp := match signedF p.1 t with
  | .error e => .error e
  | .ok x => match signedF p.2 t with
    | .error e => .error e
    | .ok y => .ok ⟨x.1, y.2⟩
def raisedF (a : Sp) (t : Nat) : Except Nat Sp := raisedG (if t % 2 = 0 then apartF a else (a.lo, a.hi)) t
def powerF (a : Sp) (n : Int) : Except Nat Sp :=
  match checkF a with
  | some e => .error e
  | none => if n < 0 ∨ 4 < n then .error 1 else raisedF a n.toNat

-- poly
def pcheckF (p : List Int) : Option Nat :=
  if p.length = 0 then some 5 else if 5 < p.length then some 4 else if ∀ n ∈ p, M n then none else some 1
def pbothF (p : List Int) (x : Sp) : Option Nat := match pcheckF p with
  | some e => some e
  | none => checkF x
/-- Horner's way: the factors from that of the power 0 on; the last one is the start. -/
def nestedF (x : Sp) : List Int → Except Nat Sp
  | [] => .ok ⟨0, 0⟩
  | [n] => .ok ⟨n, n⟩
  | n :: m :: p => match nestedF x (m :: p) with
    | .error e => .error e
    | .ok s => match prodF s x with
      | .error e => .error e
      | .ok t => sumF t ⟨n, n⟩
def orErr {α : Type} (c : Option Nat) (r : Except Nat α) : Except Nat α := match c with
  | some e => .error e
  | none => r
def hornerF (p : List Int) (x : Sp) : Except Nat Sp := orErr (pbothF p x) (nestedF x p)
/-- by powers: k: the power of the head; s: what has been added up. -/
def addedF (x : Sp) : Nat → Sp → List Int → Except Nat Sp
  | _, s, [] => .ok s
  | k, s, n :: p => match raisedF x k with
    | .error e => .error e
    | .ok r => match prodF ⟨n, n⟩ r with
      | .error e => .error e
      | .ok t => match sumF s t with
        | .error e => .error e
        | .ok s' => addedF x (k + 1) s' p
def powersF (p : List Int) (x : Sp) : Except Nat Sp := orErr (pbothF p x) (addedF x 0 ⟨0, 0⟩ p)
/-- the factors but the first, each times its power; k: the power of the head -/
def slopeG : Nat → List Int → Except Nat (List Int)
  | _, [] => .ok []
  | k, n :: p => if M (n * k) then match slopeG (k + 1) p with
      | .error e => .error e
      | .ok l => .ok (n * k :: l)
    else .error 4
def slopeF (p : List Int) : Except Nat (List Int) := if p.length = 1 then .ok [0] else slopeG 1 p.tail
def deriveF (p : List Int) : Except Nat (List Int) := orErr (pcheckF p) (slopeF p)

-- center
def steepF (p : List Int) (x : Sp) : Except Nat Sp := match slopeF p with
  | .error e => .error e
  | .ok d => nestedF x d
def cslopeF (p : List Int) (x : Sp) : Except Nat Sp := orErr (pbothF p x) (steepF p x)
def aroundF (p : List Int) (x : Sp) : Except Nat Sp := match nestedF ⟨halfF x, halfF x⟩ p with
  | .error e => .error e
  | .ok at_ => match steepF p x with
    | .error e => .error e
    | .ok d => match restF x ⟨halfF x, halfF x⟩ with
      | .error e => .error e
      | .ok far => match prodF d far with
        | .error e => .error e
        | .ok df => sumF at_ df
def crangeF (p : List Int) (x : Sp) : Except Nat Sp := orErr (pbothF p x) (aroundF p x)
def tightF (p : List Int) (x : Sp) : Except Nat Sp := match nestedF x p with
  | .error e => .error e
  | .ok a => match addedF x 0 ⟨0, 0⟩ p with
    | .error e => .error e
    | .ok b => match comF a b with
      | .error e => .error e
      | .ok ab => match aroundF p x with
        | .error e => .error e
        | .ok c => comF ab c
def bestF (p : List Int) (x : Sp) : Except Nat Sp := orErr (pbothF p x) (tightF p x)

-- mono
def wayF (d : Sp) : Int := if 0 ≤ d.lo then 1 else if d.hi ≤ 0 then -1 else 0
def mwayF (p : List Int) (x : Sp) : Except Nat Int := match cslopeF p x with
  | .error e => .error e
  | .ok d => .ok (wayF d)
def overF (p : List Int) (x : Sp) : Except Nat Sp := match tightF p x with
  | .error e => .error e
  | .ok best => match steepF p x with
    | .error e => .error e
    | .ok d => if wayF d = 0 then .ok best else
      let f := if wayF d = -1 then x.hi else x.lo
      let t := if wayF d = -1 then x.lo else x.hi
      match nestedF ⟨f, f⟩ p with
      | .error e => .error e
      | .ok a => match nestedF ⟨t, t⟩ p with
        | .error e => .error e
        | .ok b => .ok ⟨a.lo, b.hi⟩
def mrangeF (p : List Int) (x : Sp) : Except Nat Sp := orErr (pbothF p x) (overF p x)

-- split
def pieceEnd (x : Sp) (many : Int) (i : Nat) : Int := x.lo + (x.hi - x.lo) * i / many
def piecesF (x : Sp) (many : Nat) : List Sp := (List.range many).map fun i => ⟨pieceEnd x many i, pieceEnd x many (i + 1)⟩
def spiecesF (x : Sp) (many : Int) : Except Nat (List Sp) := match checkF x with
  | some e => .error e
  | none => if many < 1 ∨ 32 < many then .error 1 else .ok (piecesF x many.toNat)
/-- the hull of the ranges over the pieces; none: none is behind -/
def overAllF (p : List Int) : Option Sp → List Sp → Except Nat Sp
  | o, [] => .ok (o.getD ⟨0, 0⟩)
  | o, y :: l => match overF p y with
    | .error e => .error e
    | .ok s => overAllF p (some (match o with
        | none => s
        | some t => bothF t s)) l
def srangeF (p : List Int) (x : Sp) (many : Int) : Except Nat Sp :=
  orErr (pbothF p x) (if many < 1 ∨ 32 < many then .error 1 else overAllF p none (piecesF x many.toNat))
end Go.Proofs.YtomfbhohaiffpaaDoor

namespace Go.Proofs.YtomfbhohaiffpaaDoor

-- root
def mayF (p : List Int) (x : Sp) : Except Nat Bool := match mrangeF p x with
  | .error e => .error e
  | .ok s => .ok (zeroF s)
/-- f: fuel: the width of the span is enough -/
def findG (p : List Int) (least : Int) : Nat → Sp → List Sp → Except Nat (List Sp)
  | f, x, out => match overF p x with
    | .error e => .error e
    | .ok s => if zeroF s = false then .ok out else if x.hi - x.lo ≤ least then (if out.length = 32 then .error 4 else .ok (out ++ [x])) else
      match f with
      | 0 => .error 0
      | f + 1 => match findG p least f ⟨x.lo, halfF x⟩ out with
        | .error e => .error e
        | .ok o => findG p least f ⟨halfF x, x.hi⟩ o
def findF (p : List Int) (x : Sp) (least : Int) : Except Nat (List Sp) :=
  orErr (pbothF p x) (if least < 1 ∨ 1000000000 < least then .error 1 else findG p least (x.hi - x.lo).toNat x [])
def sureF (p : List Int) (x : Sp) : Except Nat Bool := match mrangeF p x with
  | .error e => .error e
  | .ok _ => match steepF p x with
    | .error e => .error e
    | .ok d => match nestedF ⟨x.lo, x.lo⟩ p with
      | .error e => .error e
      | .ok a => match nestedF ⟨x.hi, x.hi⟩ p with
        | .error e => .error e
        | .ok b => .ok (!zeroF d && (decide (a.hi ≤ 0) && decide (0 ≤ b.lo) || decide (0 ≤ a.lo) && decide (b.hi ≤ 0)))

-- newton
def nearerF (p : List Int) (x : Sp) : Except Nat Sp := match nestedF ⟨halfF x, halfF x⟩ p with
  | .error e => .error e
  | .ok at_ => match steepF p x with
    | .error e => .error e
    | .ok d => match quoF at_ d with
      | .error e => .error e
      | .ok q => match restF ⟨halfF x, halfF x⟩ q with
        | .error e => .error e
        | .ok s => comF s x
def nstepF (p : List Int) (x : Sp) : Except Nat Sp := orErr (pbothF p x) (nearerF p x)
def nrunG (p : List Int) : Nat → Sp → Except Nat Sp
  | 0, x => .ok x
  | n + 1, x => match nearerF p x with
    | .error e => .error e
    | .ok s => if s = x then .ok x else nrunG p n s
def nrunF (p : List Int) (x : Sp) (steps : Int) : Except Nat Sp :=
  if steps < 0 ∨ 20 < steps then .error 1 else orErr (pbothF p x) (nrunG p steps.toNat x)

-- box
def firstBad : List Sp → Option Nat
  | [] => none
  | s :: l => match checkF s with
    | some e => some e
    | none => firstBad l
def bcheckF (b : List Sp) : Option Nat := if b.length = 0 then some 5 else if 3 < b.length then some 4 else firstBad b
def btwoF (a b : List Sp) : Option Nat := match bcheckF a with
  | some e => some e
  | none => match bcheckF b with
    | some e => some e
    | none => if a.length = b.length then none else some 3
def inF : List Sp → List Sp → Bool
  | [], _ => true
  | _ :: _, [] => true
  | s :: a, t :: b => if s.lo < t.lo ∨ t.hi < s.hi then false else inF a b
def withinF (a b : List Sp) : Except Nat Bool := orErr (btwoF a b) (.ok (inF a b))
def hasG : List Sp → List Int → Bool
  | s :: b, n :: x => if n < s.lo ∨ s.hi < n then false else hasG b x
  | _, _ => true
def hasF (b : List Sp) (x : List Int) : Except Nat Bool := match bcheckF b with
  | some e => .error e
  | none => if x.length = b.length then .ok (hasG b x) else .error 3
def bbothF (a b : List Sp) : List Sp := List.zipWith bothF a b
def bhullF (a b : List Sp) : Except Nat (List Sp) := orErr (btwoF a b) (.ok (bbothF a b))
def bcomF : List Sp → List Sp → Except Nat (List Sp)
  | s :: a, t :: b => match comF s t with
    | .error e => .error e
    | .ok x => match bcomF a b with
      | .error e => .error e
      | .ok l => .ok (x :: l)
  | _, _ => .ok []
def bmeetF (a b : List Sp) : Except Nat (List Sp) := orErr (btwoF a b) (bcomF a b)
def widthF (s : Sp) : Int := s.hi - s.lo
/-- the first widest side; i: the place of the head; at_: the best till now -/
def widestG : List Sp → Nat → Nat → Int → Nat
  | [], _, at_, _ => at_
  | s :: l, i, at_, w => if w < widthF s then widestG l (i + 1) i (widthF s) else widestG l (i + 1) at_ w
def widestF (b : List Sp) : Nat := widestG b 0 0 (widthF (b[0]?.getD ⟨0, 0⟩))
def halvesF (b : List Sp) : List Sp × List Sp :=
  let i := widestF b
  let s := b[i]?.getD ⟨0, 0⟩
  (b.set i ⟨s.lo, halfF s⟩, b.set i ⟨halfF s, s.hi⟩)
def halveF (b : List Sp) : Except Nat (List Sp × List Sp) := orErr (bcheckF b) (.ok (halvesF b))

-- form
def tcheckF (t : Tm) (sides : Nat) : Option Nat :=
  if ¬ M t.by_ then some 1
  else if t.t0 < 0 ∨ 3 < t.t0 ∨ t.t1 < 0 ∨ 3 < t.t1 ∨ t.t2 < 0 ∨ 3 < t.t2 then some 1
  else if 3 < t.t0 + t.t1 + t.t2 then some 1
  else if (sides ≤ 1 ∧ 0 < t.t1) ∨ (sides ≤ 2 ∧ 0 < t.t2) then some 3 else none
def firstBadT (sides : Nat) : List Tm → Option Nat
  | [] => none
  | t :: l => match tcheckF t sides with
    | some e => some e
    | none => firstBadT sides l
def fcheckF (f : List Tm) (sides : Int) : Option Nat :=
  if sides < 1 ∨ 3 < sides then some 1 else if 6 < f.length then some 4 else firstBadT sides.toNat f
def Tm.time (t : Tm) : Nat → Int
  | 0 => t.t0
  | 1 => t.t1
  | _ => t.t2
/-- a term over the sides of a box, from side i on; s: what it is till then -/
def oneG (t : Tm) : Nat → Sp → List Sp → Except Nat Sp
  | _, s, [] => .ok s
  | i, s, x :: b => match raisedF x (t.time i).toNat with
    | .error e => .error e
    | .ok r => match prodF s r with
      | .error e => .error e
      | .ok u => oneG t (i + 1) u b
def oneF (t : Tm) (b : List Sp) : Except Nat Sp := oneG t 0 ⟨t.by_, t.by_⟩ b
def foverG (b : List Sp) : Sp → List Tm → Except Nat Sp
  | s, [] => .ok s
  | s, t :: l => match oneF t b with
    | .error e => .error e
    | .ok x => match sumF s x with
      | .error e => .error e
      | .ok s' => foverG b s' l
def foverF (f : List Tm) (b : List Sp) : Except Nat Sp := foverG b ⟨0, 0⟩ f
def frangeF (f : List Tm) (b : List Sp) : Except Nat Sp := orErr (bcheckF b) (orErr (fcheckF f b.length) (foverF f b))
def Sm (n : Int) : Prop := -20000 ≤ n ∧ n ≤ 20000
instance (n : Int) : Decidable (Sm n) := by unfold Sm; infer_instance
def numbersF (x : List Int) : Option Nat := if ∀ n ∈ x, Sm n then none else some 1
/-- n times v, k times over -/
def mulN (n v : Int) (k : Nat) : Int := n * v ^ k
def exactG (t : Tm) : Nat → Int → Int → List Int → Int
  | _, n, left, [] => n * 1000 ^ left.toNat
  | i, n, left, v :: x => exactG t (i + 1) (n * v ^ (t.time i).toNat) (left - t.time i) x
def exactF (t : Tm) (x : List Int) : Int := exactG t 0 t.by_ 3 x
def pointG (x : List Int) : Int → List Tm → Except Nat Int
  | s, [] => .ok s
  | s, t :: l => if Sm t.by_ then pointG x (s + exactF t x) l else .error 4
def pointF (f : List Tm) (x : List Int) : Except Nat Int := match pointG x 0 f with
  | .error e => .error e
  | .ok s => if M (dn s 1000000000) then .ok (dn s 1000000000) else .error 4
def atF (f : List Tm) (x : List Int) : Except Nat Int := orErr (fcheckF f x.length) (orErr (numbersF x) (pointF f x))

-- step
structure Sy where
  next : List (List Tm)
  push : List Sp
deriving Inhabited
def firstBadF (sides : Int) : List (List Tm) → Option Nat
  | [] => none
  | f :: l => match fcheckF f sides with
    | some e => some e
    | none => firstBadF sides l
def ycheckF (s : Sy) : Option Nat :=
  if s.next.length = 0 then some 5 else if 3 < s.next.length then some 4 else if s.push.length ≠ s.next.length then some 3
  else match firstBadF s.next.length s.next with
    | some e => some e
    | none => firstBad s.push
def readyF (s : Sy) (b : List Sp) : Option Nat := match ycheckF s with
  | some e => some e
  | none => match bcheckF b with
    | some e => some e
    | none => if b.length = s.next.length then none else some 3
def nextG (b : List Sp) : List (List Tm) → List Sp → Except Nat (List Sp)
  | f :: l, q :: qs => match foverF f b with
    | .error e => .error e
    | .ok x => match sumF x q with
      | .error e => .error e
      | .ok y => match nextG b l qs with
        | .error e => .error e
        | .ok r => .ok (y :: r)
  | _, _ => .ok []
def nextF (s : Sy) (b : List Sp) : Except Nat (List Sp) := nextG b s.next s.push
def ofF (s : Sy) (b : List Sp) : Except Nat (List Sp) := orErr (readyF s b) (nextF s b)
def moveG (x : List Int) : List (List Tm) → List Int → Except Nat (List Int)
  | f :: l, q :: qs => match pointF f x with
    | .error e => .error e
    | .ok n => if M (n + q) then (match moveG x l qs with
        | .error e => .error e
        | .ok r => .ok ((n + q) :: r))
      else .error 4
  | _, _ => .ok []
def ypointF (s : Sy) (x push : List Int) : Except Nat (List Int) := orErr (ycheckF s)
  (if x.length ≠ s.next.length ∨ push.length ≠ s.next.length then .error 3
   else if hasG s.push push = false then .error 1 else orErr (numbersF x) (moveG x s.next push))

-- flow
def runG (s : Sy) : Nat → List Sp → Except Nat (List (List Sp))
  | 0, b => .ok [b]
  | n + 1, b => match nextF s b with
    | .error e => .error e
    | .ok c => match runG s n c with
      | .error e => .error e
      | .ok l => .ok (b :: l)
def runF (s : Sy) (b : List Sp) (steps : Int) : Except Nat (List (List Sp)) :=
  if steps < 0 ∨ 20 < steps then .error 1 else orErr (readyF s b) (runG s steps.toNat b)
def pathG (s : Sy) : List (List Int) → List Int → Except Nat (List (List Int))
  | [], x => .ok [x]
  | q :: l, x => match ypointF s x q with
    | .error e => .error e
    | .ok y => match pathG s l y with
      | .error e => .error e
      | .ok r => .ok (x :: r)
def pathF (s : Sy) (x : List Int) (push : List (List Int)) : Except Nat (List (List Int)) :=
  if 20 < push.length then .error 4 else orErr (ycheckF s) (if x.length ≠ s.next.length then .error 3 else pathG s push x)
def wideF1 (b : List Sp) : Int := widthF (b[widestF b]?.getD ⟨0, 0⟩)
def wideF (s : Sy) (b : List Sp) (steps : Int) : Except Nat (List Int) := match runF s b steps with
  | .error e => .error e
  | .ok l => .ok (l.map wideF1)

-- cover
def cpiecesG : Nat → List Sp → List (List Sp)
  | 0, b => [b]
  | n + 1, b => cpiecesG n (halvesF b).1 ++ cpiecesG n (halvesF b).2
def cpiecesF (b : List Sp) (depth : Int) : Except Nat (List (List Sp)) :=
  orErr (bcheckF b) (if depth < 0 ∨ 5 < depth then .error 1 else .ok (cpiecesG depth.toNat b))
def coverG (s : Sy) : Option (List Sp) → List (List Sp) → Except Nat (List Sp)
  | o, [] => .ok (o.getD [])
  | o, p :: l => match nextF s p with
    | .error e => .error e
    | .ok x => coverG s (some (match o with
        | none => x
        | some a => bbothF a x)) l
def coverF (s : Sy) (b : List Sp) (depth : Int) : Except Nat (List Sp) := orErr (ycheckF s) (match cpiecesF b depth with
  | .error e => .error e
  | .ok l => if b.length = s.next.length then coverG s none l else .error 3)

-- hold
def isF (s : Sy) (b : List Sp) : Except Nat Bool := match ofF s b with
  | .error e => .error e
  | .ok x => .ok (inF x b)
def widerF (by_ : Int) : List Sp → Except Nat (List Sp)
  | [] => .ok []
  | s :: b => if s.lo - by_ < -1000000000 ∨ 1000000000 < s.hi + by_ then .error 4 else match widerF by_ b with
    | .error e => .error e
    | .ok l => .ok (⟨s.lo - by_, s.hi + by_⟩ :: l)
def growG (s : Sy) (by_ : Int) : Nat → List Sp → Except Nat (List Sp)
  | 0, b => match isF s b with
    | .error e => .error e
    | .ok true => .ok b
    | .ok false => .error 5
  | n + 1, b => match ofF s b with
    | .error e => .error e
    | .ok x => if inF x b then .ok b else match widerF by_ (bbothF b x) with
      | .error e => .error e
      | .ok c => growG s by_ n c
def growF (s : Sy) (b : List Sp) (by_ most : Int) : Except Nat (List Sp) :=
  if by_ < 0 ∨ 1000000000 < by_ ∨ most < 0 ∨ 20 < most then .error 1 else growG s by_ most.toNat b

-- safe
def firstG (bad : List Sp) : Nat → List (List Sp) → Int
  | _, [] => -1
  | i, x :: l => match bcomF x bad with
    | .ok _ => i
    | .error _ => firstG bad (i + 1) l
def firstF (s : Sy) (b bad : List Sp) (steps : Int) : Except Nat Int := orErr (bcheckF bad) (match runF s b steps with
  | .error e => .error e
  | .ok l => if bad.length = b.length then .ok (firstG bad 0 l) else .error 3)
def whenF (s : Sy) (b bad : List Sp) (steps : Int) : Except Nat Int := match firstF s b bad steps with
  | .error e => .error e
  | .ok i => if i < 0 then .error 5 else .ok i
def clearF (s : Sy) (b bad : List Sp) (steps : Int) : Except Nat Bool := match firstF s b bad steps with
  | .error e => .error e
  | .ok i => .ok (decide (i < 0))

-- narrow
def check3F (x y z : Sp) : Option Nat := match checkF x with
  | some e => some e
  | none => match checkF y with
    | some e => some e
    | none => checkF z
def keptF (s : Sp) (r : Except Nat Sp) : Except Nat Sp := match r with
  | .error e => .error e
  | .ok m => comF s m
def otherF (back : Sp → Sp → Except Nat Sp) (may : Sp → Bool) (x z y : Sp) : Except Nat Sp := if may y then keptF x (back z y) else .ok x
def allF (there back : Sp → Sp → Except Nat Sp) (may : Sp → Bool) (x y z : Sp) : Except Nat (Sp × Sp × Sp) := match check3F x y z with
  | some e => .error e
  | none => match keptF z (there x y) with
    | .error e => .error e
    | .ok z' => match otherF back may x z' y with
      | .error e => .error e
      | .ok x' => match otherF back may y z' x' with
        | .error e => .error e
        | .ok y' => .ok (x', y', z')
def nsumF (x y z : Sp) : Except Nat (Sp × Sp × Sp) := allF sumF restF (fun _ => true) x y z
def ntimesF (x y z : Sp) : Except Nat (Sp × Sp × Sp) := allF prodF quoF (fun y => !zeroF y) x y z

-- near
def Tm.dec (t : Tm) : Nat → Tm
  | 0 => ⟨t.by_ * t.t0, t.t0 - 1, t.t1, t.t2⟩
  | 1 => ⟨t.by_ * t.t1, t.t0, t.t1 - 1, t.t2⟩
  | _ => ⟨t.by_ * t.t2, t.t0, t.t1, t.t2 - 1⟩
def nsteepG (k : Nat) : List Tm → Except Nat (List Tm)
  | [] => .ok []
  | t :: l => if t.time k = 0 then nsteepG k l else if M (t.dec k).by_ then (match nsteepG k l with
      | .error e => .error e
      | .ok r => .ok (t.dec k :: r))
    else .error 4
def nsteepF (f : List Tm) (sides k : Int) : Except Nat (List Tm) := orErr (fcheckF f sides) (if k < 0 ∨ sides ≤ k then .error 1 else nsteepG k.toNat f)
/-- one polynomial's bound: k: unknowns from k on, n of them; s: added up till then -/
def boneG (f : List Tm) (b : List Sp) : Nat → Nat → Int → Except Nat Int
  | _, 0, s => if M s then .ok s else .error 4
  | k, n + 1, s => match nsteepG k f with
    | .error e => .error e
    | .ok d => match foverF d b with
      | .error e => .error e
      | .ok x => boneG f b (k + 1) n (s + (apartF x).2)
def boundG (b : List Sp) : Int → List (List Tm) → Except Nat Int
  | m, [] => .ok m
  | m, f :: l => match boneG f b 0 b.length 0 with
    | .error e => .error e
    | .ok n => boundG b (max m n) l
def boundF (s : Sy) (b : List Sp) : Except Nat Int := orErr (readyF s b) (boundG b 0 s.next)
def pullF (s : Sy) (b : List Sp) : Except Nat Bool := match boundF s b with
  | .error e => .error e
  | .ok n => match isF s b with
    | .error e => .error e
    | .ok is => .ok (is && decide (n < 1000))
end Go.Proofs.YtomfbhohaiffpaaDoor
