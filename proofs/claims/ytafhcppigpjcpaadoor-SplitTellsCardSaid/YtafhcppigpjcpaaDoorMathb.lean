/- Plain definitions, no program in sight: what the functions of the program compute: roots, boxes, forms, systems. -/
import Derived.Test.YtafhcppigpjcpaaDoorMath
set_option linter.unusedVariables false
set_option linter.unusedSimpArgs false
namespace Go.Proofs.YtafhcppigpjcpaaDoor

-- root
def mayF (p : List Int) (x : Sp) : Except Nat Bool := match mrangeF p x with
  | .error e => .error e
  | .ok s => .ok (zeroF s)
/-- f: fuel: the width of the span is enough -/
def findG (p : List Int) (least : Int) : Nat → Sp → List Sp → Except Nat (List Sp)
  | f, x, out => match overF p x with
    | .error e => .error e
    | .ok s => if zeroF s = false then .ok out else if x.hi - x.lo ≤ least then (if out.length = 32 then .error 4 else .ok (out ++ [x])) else
      match f with
      | 0 => .error 0
      | f + 1 => match findG p least f ⟨x.lo, halfF x⟩ out with
        | .error e => .error e
        | .ok o => findG p least f ⟨halfF x, x.hi⟩ o
def findF (p : List Int) (x : Sp) (least : Int) : Except Nat (List Sp) :=
  orErr (pbothF p x) (if least < 1 ∨ 1000000000 < least then .error 1 else findG p least (x.hi - x.lo).toNat x [])
def sureF (p : List Int) (x : Sp) : Except Nat Bool := match mrangeF p x with
  | .error e => .error e
  | .ok _ => match steepF p x with
    | .error e => .error e
    | .ok d => match nestedF ⟨x.lo, x.lo⟩ p with
      | .error e => .error e
      | .ok a => match nestedF ⟨x.hi, x.hi⟩ p with
        | .error e => .error e
        | .ok b => .ok (!zeroF d && (decide (a.hi ≤ 0) && decide (0 ≤ b.lo) || decide (0 ≤ a.lo) && decide (b.hi ≤ 0)))

-- newton
def nearerF (p : List Int) (x : Sp) : Except Nat Sp := match nestedF ⟨halfF x, halfF x⟩ p with
  | .error e => .error e
  | .ok at_ => match steepF p x with
    | .error e => .error e
    | .ok d => match quoF at_ d with
      | .error e => .error e
      | .ok q => match restF ⟨halfF x, halfF x⟩ q with
        | .error e => .error e
        | .ok s => comF s x
def nstepF (p : List Int) (x : Sp) : Except Nat Sp := orErr (pbothF p x) (nearerF p x)
def nrunG (p : List Int) : Nat → Sp → Except Nat Sp
  | 0, x => .ok x
  | n + 1, x => match nearerF p x with
    | .error e => .error e
    | .ok s => if s = x then .ok x else nrunG p n s
def nrunF (p : List Int) (x : Sp) (steps : Int) : Except Nat Sp :=
  if steps < 0 ∨ 20 < steps then .error 1 else orErr (pbothF p x) (nrunG p steps.toNat x)

-- box
def firstBad : List Sp → Option Nat
  | [] => none
  | s :: l => match checkF s with
    | some e => some e
    | none => firstBad l
def bcheckF (b : List Sp) : Option Nat := if b.length = 0 then some 5 else if 3 < b.length then some 4 else firstBad b
def btwoF (a b : List Sp) : Option Nat := match bcheckF a with
  | some e => some e
  | none => match bcheckF b with
    | some e => some e
    | none => if a.length = b.length then none else some 3
def inF : List Sp → List Sp → Bool
  | [], _ => true
  | _ :: _, [] => true
  | s :: a, t :: b => if s.lo < t.lo ∨ t.hi < s.hi then false else inF a b
def withinF (a b : List Sp) : Except Nat Bool := orErr (btwoF a b) (.ok (inF a b))
def hasG : List Sp → List Int → Bool
  | s :: b, n :: x => if n < s.lo ∨ s.hi < n then false else hasG b x
  | _, _ => true
def hasF (b : List Sp) (x : List Int) : Except Nat Bool := match bcheckF b with
  | some e => .error e
  | none => if x.length = b.length then .ok (hasG b x) else .error 3
def bbothF (a b : List Sp) : List Sp := List.zipWith bothF a b
def bhullF (a b : List Sp) : Except Nat (List Sp) := orErr (btwoF a b) (.ok (bbothF a b))
def bcomF : List Sp → List Sp → Except Nat (List Sp)
  | s :: a, t :: b => match comF s t with
    | .error e => .error e
    | .ok x => match bcomF a b with
      | .error e => .error e
      | .ok l => .ok (x :: l)
  | _, _ => .ok []
def bmeetF (a b : List Sp) : Except Nat (List Sp) := orErr (btwoF a b) (bcomF a b)
def widthF (s : Sp) : Int := s.hi - s.lo
/-- the first widest side; i: the place of the head; at_: the best till now -/
def widestG : List Sp → Nat → Nat → Int → Nat
  | [], _, at_, _ => at_
  | s :: l, i, at_, w => if w < widthF s then widestG l (i + 1) i (widthF s) else widestG l (i + 1) at_ w
def widestF (b : List Sp) : Nat := widestG b 0 0 (widthF (b[0]?.getD ⟨0, 0⟩))
def halvesF (b : List Sp) : List Sp × List Sp :=
  let i := widestF b
  let s := b[i]?.getD ⟨0, 0⟩
  (b.set i ⟨s.lo, halfF s⟩, b.set i ⟨halfF s, s.hi⟩)
def halveF (b : List Sp) : Except Nat (List Sp × List Sp) := orErr (bcheckF b) (.ok (halvesF b))

-- form
def tcheckF (t : Tm) (sides : Nat) : Option Nat :=
  if ¬ M t.by_ then some 1
  else if t.t0 < 0 ∨ 3 < t.t0 ∨ t.t1 < 0 ∨ 3 < t.t1 ∨ t.t2 < 0 ∨ 3 < t.t2 then some 1
  else if 3 < t.t0 + t.t1 + t.t2 then some 1
  else if (sides ≤ 1 ∧ 0 < t.t1) ∨ (sides ≤ 2 ∧ 0 < t.t2) then some 3 else none
def firstBadT (sides : Nat) : List Tm → Option Nat
  | [] => none
  | t :: l => match tcheckF t sides with
    | some e => some e
    | none => firstBadT sides l
def fcheckF (f : List Tm) (sides : Int) : Option Nat :=
  if sides < 1 ∨ 3 < sides then some 1 else if 6 < f.length then some 4 else firstBadT sides.toNat f
def Tm.time (t : Tm) : Nat → Int
  | 0 => t.t0
  | 1 => t.t1
  | _ => t.t2
/-- a term over the sides of a box, from side i on; s: what it is till then -/
def oneG (t : Tm) : Nat → Sp → List Sp → Except Nat Sp
  | _, s, [] => .ok s
  | i, s, x :: b => match raisedF x (t.time i).toNat with
    | .error e => .error e
    | .ok r => match prodF s r with
      | .error e => .error e
      | .ok u => oneG t (i + 1) u b
def oneF (t : Tm) (b : List Sp) : Except Nat Sp := oneG t 0 ⟨t.by_, t.by_⟩ b
def foverG (b : List Sp) : Sp → List Tm → Except Nat Sp
  | s, [] => .ok s
  | s, t :: l => match oneF t b with
    | .error e => .error e
    | .ok x => match sumF s x with
      | .error e => .error e
      | .ok s' => foverG b s' l
def foverF (f : List Tm) (b : List Sp) : Except Nat Sp := foverG b ⟨0, 0⟩ f
def frangeF (f : List Tm) (b : List Sp) : Except Nat Sp := orErr (bcheckF b) (orErr (fcheckF f b.length) (foverF f b))
def Sm (n : Int) : Prop := -20000 ≤ n ∧ n ≤ 20000
instance (n : Int) : Decidable (Sm n) := by unfold Sm; infer_instance
def numbersF (x : List Int) : Option Nat := if ∀ n ∈ x, Sm n then none else some 1
/-- n times v, k times over -/
def mulN (n v : Int) (k : Nat) : Int := n * v ^ k
def exactG (t : Tm) : Nat → Int → Int → List Int → Int
  | _, n, left, [] => n * 1000 ^ left.toNat
  | i, n, left, v :: x => exactG t (i + 1) (n * v ^ (t.time i).toNat) (left - t.time i) x
def exactF (t : Tm) (x : List Int) : Int := exactG t 0 t.by_ 3 x
def pointG (x : List Int) : Int → List Tm → Except Nat Int
  | s, [] => .ok s
  | s, t :: l => if Sm t.by_ then pointG x (s + exactF t x) l else .error 4
def pointF (f : List Tm) (x : List Int) : Except Nat Int := match pointG x 0 f with
  | .error e => .error e
  | .ok s => if M (dn s 1000000000) then .ok (dn s 1000000000) else .error 4
def atF (f : List Tm) (x : List Int) : Except Nat Int := orErr (fcheckF f x.length) (orErr (numbersF x) (pointF f x))

-- step
structure Sy where
  next : List (List Tm)
  push : List Sp
deriving Inhabited
def firstBadF (sides : Int) : List (List Tm) → Option Nat
  | [] => none
  | f :: l => match fcheckF f sides with
    | some e => some e
    | none => firstBadF sides l
def ycheckF (s : Sy) : Option Nat :=
  if s.next.length = 0 then some 5 else if 3 < s.next.length then some 4 else if s.push.length ≠ s.next.length then some 3
  else match firstBadF s.next.length s.next with
    | some e => some e
    | none => firstBad s.push
def readyF (s : Sy) (b : List Sp) : Option Nat := match ycheckF s with
  | some e => some e
  | none => match bcheckF b with
    | some e => some e
    | none => if b.length = s.next.length then none else some 3
def nextG (b : List Sp) : List (List Tm) → List Sp → Except Nat (List Sp)
  | f :: l, q :: qs => match foverF f b with
    | .error e => .error e
    | .ok x => match sumF x q with
      | .error e => .error e
      | .ok y => match nextG b l qs with
        | .error e => .error e
        | .ok r => .ok (y :: r)
  | _, _ => .ok []
def nextF (s : Sy) (b : List Sp) : Except Nat (List Sp) := nextG b s.next s.push
def ofF (s : Sy) (b : List Sp) : Except Nat (List Sp) := orErr (readyF s b) (nextF s b)
def moveG (x : List Int) : List (List Tm) → List Int → Except Nat (List Int)
  | f :: l, q :: qs => match pointF f x with
    | .error e => .error e
    | .ok n => if M (n + q) then (match moveG x l qs with
        | .error e => .error e
        | .ok r => .ok ((n + q) :: r))
      else .error 4
  | _, _ => .ok []
def ypointF (s : Sy) (x push : List Int) : Except Nat (List Int) := orErr (ycheckF s)
  (if x.length ≠ s.next.length ∨ push.length ≠ s.next.length then .error 3
   else if hasG s.push push = false then .error 1 else orErr (numbersF x) (moveG x s.next push))

-- flow
def runG (s : Sy) : Nat → List Sp → Except Nat (List (List Sp))
  | 0, b => .ok [b]
  | n + 1, b => match nextF s b with
    | .error e => .error e
    | .ok c => match runG s n c with
      | .error e => .error e
      | .ok l => .ok (b :: l)
def runF (s : Sy) (b : List Sp) (steps : Int) : Except Nat (List (List Sp)) :=
  if steps < 0 ∨ 20 < steps then .error 1 else orErr (readyF s b) (runG s steps.toNat b)
def pathG (s : Sy) : List (List Int) → List Int → Except Nat (List (List Int))
  | [], x => .ok [x]
  | q :: l, x => match ypointF s x q with
    | .error e => .error e
    | .ok y => match pathG s l y with
      | .error e => .error e
      | .ok r => .ok (x :: r)
def pathF (s : Sy) (x : List Int) (push : List (List Int)) : Except Nat (List (List Int)) :=
  if 20 < push.length then .error 4 else orErr (ycheckF s) (if x.length ≠ s.next.length then .error 3 else pathG s push x)
def wideF1 (b : List Sp) : Int := widthF (b[widestF b]?.getD ⟨0, 0⟩)
def wideF (s : Sy) (b : List Sp) (steps : Int) : Except Nat (List Int) := match runF s b steps with
  | .error e => .error e
  | .ok l => .ok (l.map wideF1)

-- cover
def cpiecesG : Nat → List Sp → List (List Sp)
  | 0, b => [b]
  | n + 1, b => cpiecesG n (halvesF b).1 ++ cpiecesG n (halvesF b).2
def cpiecesF (b : List Sp) (depth : Int) : Except Nat (List (List Sp)) :=
  orErr (bcheckF b) (if depth < 0 ∨ 5 < depth then .error 1 else .ok (cpiecesG depth.toNat b))
def coverG (s : Sy) : Option (List Sp) → List (List Sp) → Except Nat (List Sp)
  | o, [] => .ok (o.getD [])
  | o, p :: l => match nextF s p with
    | .error e => .error e
    | .ok x => coverG s (some (match o with
        | none => x
        | some a => bbothF a x)) l
def coverF (s : Sy) (b : List Sp) (depth : Int) : Except Nat (List Sp) := orErr (ycheckF s) (match cpiecesF b depth with
  | .error e => .error e
  | .ok l => if b.length = s.next.length then coverG s none l else .error 3)

-- hold
def isF (s : Sy) (b : List Sp) : Except Nat Bool := match ofF s b with
  | .error e => .error e
  | .ok x => .ok (inF x b)
def widerF (by_ : Int) : List Sp → Except Nat (List Sp)
  | [] => .ok []
  | s :: b => if s.lo - by_ < -1000000000 ∨ 1000000000 < s.hi + by_ then .error 4 else match widerF by_ b with
    | .error e => .error e
    | .ok l => .ok (⟨s.lo - by_, s.hi + by_⟩ :: l)
def growG (s : Sy) (by_ : Int) : Nat → List Sp → Except Nat (List Sp)
  | 0, b => match isF s b with
    | .error e => .error e
    | .ok true => .ok b
    | .ok false => .error 5
  | n + 1, b => match ofF s b with
    | .error e => .error e
    | .ok x => if inF x b then .ok b else match widerF by_ (bbothF b x) with
      | .error e => .error e
      | .ok c => growG s by_ n c
def growF (s : Sy) (b : List Sp) (by_ most : Int) : Except Nat (List Sp) :=
  if by_ < 0 ∨ 1000000000 < by_ ∨ most < 0 ∨ 20 < most then .error 1 else growG s by_ most.toNat b

-- safe
def firstG (bad : List Sp) : Nat → List (List Sp) → Int
  | _, [] => -1
  | i, x :: l => match bcomF x bad with
    | .ok _ => i
    | .error _ => firstG bad (i + 1) l
def firstF (s : Sy) (b bad : List Sp) (steps : Int) : Except Nat Int := orErr (bcheckF bad) (match runF s b steps with
  | .error e => .error e
  | .ok l => if bad.length = b.length then .ok (firstG bad 0 l) else .error 3)
def whenF (s : Sy) (b bad : List Sp) (steps : Int) : Except Nat Int := match firstF s b bad steps with
  | .error e => .error e
  | .ok i => if i < 0 then .error 5 else .ok i
def clearF (s : Sy) (b bad : List Sp) (steps : Int) : Except Nat Bool := match firstF s b bad steps with
  | .error e => .error e
  | .ok i => .ok (decide (i < 0))

-- narrow
def check3F (x y z : Sp) : Option Nat := match checkF x with
  | some e => some e
  | none => match checkF y with
    | some e => some e
    | none => checkF z
def keptF (s : Sp) (r : Except Nat Sp) : Except Nat Sp := match r with
  | .error e => .error e
  | .ok m => comF s m
def otherF (back : Sp → Sp → Except Nat Sp) (may : Sp → Bool) (x z y : Sp) : Except Nat Sp := if may y then keptF x (back z y) else .ok x
def allF (there back : Sp → Sp → Except Nat Sp) (may : Sp → Bool) (x y z : Sp) : Except Nat (Sp × Sp × Sp) := match check3F x y z with
  | some e => .error e
  | none => match keptF z (there x y) with
    | .error e => .error e
    | .ok z' => match otherF back may x z' y with
      | .error e => .error e
      | .ok x' => match otherF back may y z' x' with
        | .error e => .error e
        | .ok y' => .ok (x', y', z')
def nsumF (x y z : Sp) : Except Nat (Sp × Sp × Sp) := allF sumF restF (fun _ => true) x y z
def ntimesF (x y z : Sp) : Except Nat (Sp × Sp × Sp) := allF prodF quoF (fun y => !zeroF y) x y z

-- near
def Tm.dec (t : Tm) : Nat → Tm
  | 0 => ⟨t.by_ * t.t0, t.t0 - 1, t.t1, t.t2⟩
  | 1 => ⟨t.by_ * t.t1, t.t0, t.t1 - 1, t.t2⟩
  | _ => ⟨t.by_ * t.t2, t.t0, t.t1, t.t2 - 1⟩
def nsteepG (k : Nat) : List Tm → Except Nat (List Tm)
  | [] => .ok []
  | t :: l => if t.time k = 0 then nsteepG k l else if M (t.dec k).by_ then (match nsteepG k l with
      | .error e => .error e
      | .ok r => .ok (t.dec k :: r))
    else .error 4
def nsteepF (f : List Tm) (sides k : Int) : Except Nat (List Tm) := orErr (fcheckF f sides) (if k < 0 ∨ sides ≤ k then .error 1 else nsteepG k.toNat f)
/-- one polynomial's bound: k: unknowns from k on, n of them; s: added up till then -/
def boneG (f : List Tm) (b : List Sp) : Nat → Nat → Int → Except Nat Int
  | _, 0, s => if M s then .ok s else .error 4
  | k, n + 1, s => match nsteepG k f with
    | .error e => .error e
    | .ok d => match foverF d b with
      | .error e => .error e
      | .ok x => boneG f b (k + 1) n (s + (apartF x).2)
def boundG (b : List Sp) : Int → List (List Tm) → Except Nat Int
  | m, [] => .ok m
  | m, f :: l => match boneG f b 0 b.length 0 with
    | .error e => .error e
    | .ok n => boundG b (max m n) l
def boundF (s : Sy) (b : List Sp) : Except Nat Int := orErr (readyF s b) (boundG b 0 s.next)
def pullF (s : Sy) (b : List Sp) : Except Nat Bool := match boundF s b with
  | .error e => .error e
  | .ok n => match isF s b with
    | .error e => .error e
    | .ok is => .ok (is && decide (n < 1000))
end Go.Proofs.YtafhcppigpjcpaaDoor
