/-
  No cell of these rows narrows 'for every input' (looked for: loops, veiled, ifaces, maps, wideKeys, modest, calm, conditions, laid).
  DERIVED. THE GIVEN ROWS OF THIS SEAT. 31 by the template 'for every input the law returns true; each argument reads behind the call as it read before'; 0 by the template 'total and deterministic' (their statements: YtmnbgcbiaapldaaTotals.lean).
  GIVEN WITH THE SEED: the statements are not yours to turn. If you find one false, say at which input.
  Laid BY PROGRAM, IN A SANDBOX (cutbox-rows.mjs): the forced cells as the released guide's own fill.sh prints them over the translation 94af7f704340e07f… (all of the seat's roots in one cut). By AI agents, Wed Nov 11 2026. No macro, syntax, notation, axiom, sorry.
-/
import Derived.Test.YtmnbgcbiaapldaaChecked
import GoSem.Claim
import GoSem.ClaimJoined
import GoSem.ClaimMapViews
import Derived.JoinedTies
import Derived.KernelRfl
namespace Go.Proofs.Ytmnbgcbiaapldaa
/- THE CELL 'sum', in the pinned program and in every row, IS THE sha256 OF THE DUMP (.gsa) THAT YtmnbgcbiaapldaaProg.lean LOADS. Nothing in Lean hashes anything: it is a label: what it is worth is what the hold of that sum in a sandbox is worth. -/
noncomputable def Try.pinned : Pinned := { name := "ytmnbgcbiaapldaa", sum := "94af7f704340e07fbdbb8337843a0c5579d643d483c04b392ccaa8b0bfadf0e5", checked := Try.checked }
namespace Rows
def none {H : Type} : Left H := { results := [], args := [] }

/-- 'spanlaw1.Names': WHATEVER THE INPUT: true; the input reads as it did. -/
def namesSpec : ChangeSpec := { name := "names", fn := fun _ => fun
  | [] => { results := [.lit (.bool true)], args := [] }
  | _ => none }
def namesRow : OpenClaim := { program := "ytmnbgcbiaapldaa", sum := "94af7f704340e07fbdbb8337843a0c5579d643d483c04b392ccaa8b0bfadf0e5", func := "spanmeadow/spanlaw1.Names", spec := "names", apart := false }
def NamesSaid : Prop := namesRow.holds Try.pinned (OpenSpec.ofChange namesSpec)

/-- ITS FALSE NEIGHBOUR: 'it returns false'. Refute it at one input. -/
def namesWrong : ChangeSpec := { name := "names", fn := fun _ => fun
  | [] => { results := [.lit (.bool false)], args := [] }
  | _ => none }
def NamesWrongFalsely : Prop := namesRow.holds Try.pinned (OpenSpec.ofChange namesWrong)

/-- 'spanlaw4.SpanZero': WHATEVER THE INPUT: true; the input reads as it did. -/
def spanZeroSpec : ChangeSpec := { name := "spanZero", fn := fun _ => fun
  | [d] => { results := [.lit (.bool true)], args := [d] }
  | _ => none }
def spanZeroRow : OpenClaim := { program := "ytmnbgcbiaapldaa", sum := "94af7f704340e07fbdbb8337843a0c5579d643d483c04b392ccaa8b0bfadf0e5", func := "spanmeadow/spanlaw4.SpanZero", spec := "spanZero", unfollowed := true, recurses := true, apart := false }
def SpanZeroSaid : Prop := spanZeroRow.holds Try.pinned (OpenSpec.ofChange spanZeroSpec)

/-- ITS FALSE NEIGHBOUR: 'it returns false'. Refute it at one input. -/
def spanZeroWrong : ChangeSpec := { name := "spanZero", fn := fun _ => fun
  | [d] => { results := [.lit (.bool false)], args := [d] }
  | _ => none }
def SpanZeroWrongFalsely : Prop := spanZeroRow.holds Try.pinned (OpenSpec.ofChange spanZeroWrong)

/-- 'spanlaw4.NarrowPoint': WHATEVER THE INPUT: true; the input reads as it did. -/
def narrowPointSpec : ChangeSpec := { name := "narrowPoint", fn := fun _ => fun
  | [d1, d2, d3] => { results := [.lit (.bool true)], args := [d1, d2, d3] }
  | _ => none }
def narrowPointRow : OpenClaim := { program := "ytmnbgcbiaapldaa", sum := "94af7f704340e07fbdbb8337843a0c5579d643d483c04b392ccaa8b0bfadf0e5", func := "spanmeadow/spanlaw4.NarrowPoint", spec := "narrowPoint", unfollowed := true, recurses := true, apart := false }
def NarrowPointSaid : Prop := narrowPointRow.holds Try.pinned (OpenSpec.ofChange narrowPointSpec)

/-- ITS FALSE NEIGHBOUR: 'it returns false'. Refute it at one input. -/
def narrowPointWrong : ChangeSpec := { name := "narrowPoint", fn := fun _ => fun
  | [d1, d2, d3] => { results := [.lit (.bool false)], args := [d1, d2, d3] }
  | _ => none }
def NarrowPointWrongFalsely : Prop := narrowPointRow.holds Try.pinned (OpenSpec.ofChange narrowPointWrong)

/-- 'spanlaw4.PowerFirst': WHATEVER THE INPUT: true; the input reads as it did. -/
def powerFirstSpec : ChangeSpec := { name := "powerFirst", fn := fun _ => fun
  | [d] => { results := [.lit (.bool true)], args := [d] }
  | _ => none }
def powerFirstRow : OpenClaim := { program := "ytmnbgcbiaapldaa", sum := "94af7f704340e07fbdbb8337843a0c5579d643d483c04b392ccaa8b0bfadf0e5", func := "spanmeadow/spanlaw4.PowerFirst", spec := "powerFirst", apart := false }
def PowerFirstSaid : Prop := powerFirstRow.holds Try.pinned (OpenSpec.ofChange powerFirstSpec)

/-- ITS FALSE NEIGHBOUR: 'it returns false'. Refute it at one input. -/
def powerFirstWrong : ChangeSpec := { name := "powerFirst", fn := fun _ => fun
  | [d] => { results := [.lit (.bool false)], args := [d] }
  | _ => none }
def PowerFirstWrongFalsely : Prop := powerFirstRow.holds Try.pinned (OpenSpec.ofChange powerFirstWrong)

/-- 'spanlaw4.BoxPoint': WHATEVER THE INPUT: true; the input reads as it did. -/
def boxPointSpec : ChangeSpec := { name := "boxPoint", fn := fun _ => fun
  | [d] => { results := [.lit (.bool true)], args := [d] }
  | _ => none }
def boxPointRow : OpenClaim := { program := "ytmnbgcbiaapldaa", sum := "94af7f704340e07fbdbb8337843a0c5579d643d483c04b392ccaa8b0bfadf0e5", func := "spanmeadow/spanlaw4.BoxPoint", spec := "boxPoint", apart := false }
def BoxPointSaid : Prop := boxPointRow.holds Try.pinned (OpenSpec.ofChange boxPointSpec)

/-- ITS FALSE NEIGHBOUR: 'it returns false'. Refute it at one input. -/
def boxPointWrong : ChangeSpec := { name := "boxPoint", fn := fun _ => fun
  | [d] => { results := [.lit (.bool false)], args := [d] }
  | _ => none }
def BoxPointWrongFalsely : Prop := boxPointRow.holds Try.pinned (OpenSpec.ofChange boxPointWrong)

/-- 'spanlaw1.PowerHas': WHATEVER THE INPUT: true; the input reads as it did. -/
def powerHasSpec : ChangeSpec := { name := "powerHas", fn := fun _ => fun
  | [d1, d2, d3] => { results := [.lit (.bool true)], args := [d1, d2, d3] }
  | _ => none }
def powerHasRow : OpenClaim := { program := "ytmnbgcbiaapldaa", sum := "94af7f704340e07fbdbb8337843a0c5579d643d483c04b392ccaa8b0bfadf0e5", func := "spanmeadow/spanlaw1.PowerHas", spec := "powerHas", apart := false }
def PowerHasSaid : Prop := powerHasRow.holds Try.pinned (OpenSpec.ofChange powerHasSpec)

/-- ITS FALSE NEIGHBOUR: 'it returns false'. Refute it at one input. -/
def powerHasWrong : ChangeSpec := { name := "powerHas", fn := fun _ => fun
  | [d1, d2, d3] => { results := [.lit (.bool false)], args := [d1, d2, d3] }
  | _ => none }
def PowerHasWrongFalsely : Prop := powerHasRow.holds Try.pinned (OpenSpec.ofChange powerHasWrong)

/-- 'spanlaw1.BoxParts': WHATEVER THE INPUT: true; the input reads as it did. -/
def boxPartsSpec : ChangeSpec := { name := "boxParts", fn := fun _ => fun
  | [d1, d2, d3] => { results := [.lit (.bool true)], args := [d1, d2, d3] }
  | _ => none }
def boxPartsRow : OpenClaim := { program := "ytmnbgcbiaapldaa", sum := "94af7f704340e07fbdbb8337843a0c5579d643d483c04b392ccaa8b0bfadf0e5", func := "spanmeadow/spanlaw1.BoxParts", spec := "boxParts", apart := false }
def BoxPartsSaid : Prop := boxPartsRow.holds Try.pinned (OpenSpec.ofChange boxPartsSpec)

/-- ITS FALSE NEIGHBOUR: 'it returns false'. Refute it at one input. -/
def boxPartsWrong : ChangeSpec := { name := "boxParts", fn := fun _ => fun
  | [d1, d2, d3] => { results := [.lit (.bool false)], args := [d1, d2, d3] }
  | _ => none }
def BoxPartsWrongFalsely : Prop := boxPartsRow.holds Try.pinned (OpenSpec.ofChange boxPartsWrong)

/-- 'spanlaw4.MonoStraight': WHATEVER THE INPUT: true; the input reads as it did. -/
def monoStraightSpec : ChangeSpec := { name := "monoStraight", fn := fun _ => fun
  | [d1, d2, d3] => { results := [.lit (.bool true)], args := [d1, d2, d3] }
  | _ => none }
def monoStraightRow : OpenClaim := { program := "ytmnbgcbiaapldaa", sum := "94af7f704340e07fbdbb8337843a0c5579d643d483c04b392ccaa8b0bfadf0e5", func := "spanmeadow/spanlaw4.MonoStraight", spec := "monoStraight", unfollowed := true, recurses := true, apart := false }
def MonoStraightSaid : Prop := monoStraightRow.holds Try.pinned (OpenSpec.ofChange monoStraightSpec)

/-- ITS FALSE NEIGHBOUR: 'it returns false'. Refute it at one input. -/
def monoStraightWrong : ChangeSpec := { name := "monoStraight", fn := fun _ => fun
  | [d1, d2, d3] => { results := [.lit (.bool false)], args := [d1, d2, d3] }
  | _ => none }
def MonoStraightWrongFalsely : Prop := monoStraightRow.holds Try.pinned (OpenSpec.ofChange monoStraightWrong)

/-- 'spanlaw1.PolyHas': WHATEVER THE INPUT: true; the input reads as it did. -/
def polyHasSpec : ChangeSpec := { name := "polyHas", fn := fun _ => fun
  | [d1, d2, d3] => { results := [.lit (.bool true)], args := [d1, d2, d3] }
  | _ => none }
def polyHasRow : OpenClaim := { program := "ytmnbgcbiaapldaa", sum := "94af7f704340e07fbdbb8337843a0c5579d643d483c04b392ccaa8b0bfadf0e5", func := "spanmeadow/spanlaw1.PolyHas", spec := "polyHas", unfollowed := true, recurses := true, apart := false }
def PolyHasSaid : Prop := polyHasRow.holds Try.pinned (OpenSpec.ofChange polyHasSpec)

/-- ITS FALSE NEIGHBOUR: 'it returns false'. Refute it at one input. -/
def polyHasWrong : ChangeSpec := { name := "polyHas", fn := fun _ => fun
  | [d1, d2, d3] => { results := [.lit (.bool false)], args := [d1, d2, d3] }
  | _ => none }
def PolyHasWrongFalsely : Prop := polyHasRow.holds Try.pinned (OpenSpec.ofChange polyHasWrong)

/-- 'spanlaw4.NewtonLine': WHATEVER THE INPUT: true; the input reads as it did. -/
def newtonLineSpec : ChangeSpec := { name := "newtonLine", fn := fun _ => fun
  | [d1, d2] => { results := [.lit (.bool true)], args := [d1, d2] }
  | _ => none }
def newtonLineRow : OpenClaim := { program := "ytmnbgcbiaapldaa", sum := "94af7f704340e07fbdbb8337843a0c5579d643d483c04b392ccaa8b0bfadf0e5", func := "spanmeadow/spanlaw4.NewtonLine", spec := "newtonLine", unfollowed := true, recurses := true, apart := false }
def NewtonLineSaid : Prop := newtonLineRow.holds Try.pinned (OpenSpec.ofChange newtonLineSpec)

/-- ITS FALSE NEIGHBOUR: 'it returns false'. Refute it at one input. -/
def newtonLineWrong : ChangeSpec := { name := "newtonLine", fn := fun _ => fun
  | [d1, d2] => { results := [.lit (.bool false)], args := [d1, d2] }
  | _ => none }
def NewtonLineWrongFalsely : Prop := newtonLineRow.holds Try.pinned (OpenSpec.ofChange newtonLineWrong)

/-- 'spanlaw4.PolyFlat': WHATEVER THE INPUT: true; the input reads as it did. -/
def polyFlatSpec : ChangeSpec := { name := "polyFlat", fn := fun _ => fun
  | [d1, d2] => { results := [.lit (.bool true)], args := [d1, d2] }
  | _ => none }
def polyFlatRow : OpenClaim := { program := "ytmnbgcbiaapldaa", sum := "94af7f704340e07fbdbb8337843a0c5579d643d483c04b392ccaa8b0bfadf0e5", func := "spanmeadow/spanlaw4.PolyFlat", spec := "polyFlat", unfollowed := true, recurses := true, apart := false }
def PolyFlatSaid : Prop := polyFlatRow.holds Try.pinned (OpenSpec.ofChange polyFlatSpec)

/-- ITS FALSE NEIGHBOUR: 'it returns false'. Refute it at one input. -/
def polyFlatWrong : ChangeSpec := { name := "polyFlat", fn := fun _ => fun
  | [d1, d2] => { results := [.lit (.bool false)], args := [d1, d2] }
  | _ => none }
def PolyFlatWrongFalsely : Prop := polyFlatRow.holds Try.pinned (OpenSpec.ofChange polyFlatWrong)

/-- 'spanlaw4.CenterPoint': WHATEVER THE INPUT: true; the input reads as it did. -/
def centerPointSpec : ChangeSpec := { name := "centerPoint", fn := fun _ => fun
  | [d1, d2] => { results := [.lit (.bool true)], args := [d1, d2] }
  | _ => none }
def centerPointRow : OpenClaim := { program := "ytmnbgcbiaapldaa", sum := "94af7f704340e07fbdbb8337843a0c5579d643d483c04b392ccaa8b0bfadf0e5", func := "spanmeadow/spanlaw4.CenterPoint", spec := "centerPoint", unfollowed := true, recurses := true, apart := false }
def CenterPointSaid : Prop := centerPointRow.holds Try.pinned (OpenSpec.ofChange centerPointSpec)

/-- ITS FALSE NEIGHBOUR: 'it returns false'. Refute it at one input. -/
def centerPointWrong : ChangeSpec := { name := "centerPoint", fn := fun _ => fun
  | [d1, d2] => { results := [.lit (.bool false)], args := [d1, d2] }
  | _ => none }
def CenterPointWrongFalsely : Prop := centerPointRow.holds Try.pinned (OpenSpec.ofChange centerPointWrong)

/-- 'spanlaw1.CenterHas': WHATEVER THE INPUT: true; the input reads as it did. -/
def centerHasSpec : ChangeSpec := { name := "centerHas", fn := fun _ => fun
  | [d1, d2, d3] => { results := [.lit (.bool true)], args := [d1, d2, d3] }
  | _ => none }
def centerHasRow : OpenClaim := { program := "ytmnbgcbiaapldaa", sum := "94af7f704340e07fbdbb8337843a0c5579d643d483c04b392ccaa8b0bfadf0e5", func := "spanmeadow/spanlaw1.CenterHas", spec := "centerHas", unfollowed := true, recurses := true, apart := false }
def CenterHasSaid : Prop := centerHasRow.holds Try.pinned (OpenSpec.ofChange centerHasSpec)

/-- ITS FALSE NEIGHBOUR: 'it returns false'. Refute it at one input. -/
def centerHasWrong : ChangeSpec := { name := "centerHas", fn := fun _ => fun
  | [d1, d2, d3] => { results := [.lit (.bool false)], args := [d1, d2, d3] }
  | _ => none }
def CenterHasWrongFalsely : Prop := centerHasRow.holds Try.pinned (OpenSpec.ofChange centerHasWrong)

/-- 'spanlaw2.FormHas': WHATEVER THE INPUT: true; the input reads as it did. -/
def formHasSpec : ChangeSpec := { name := "formHas", fn := fun _ => fun
  | [d1, d2, d3, d4] => { results := [.lit (.bool true)], args := [d1, d2, d3, d4] }
  | _ => none }
def formHasRow : OpenClaim := { program := "ytmnbgcbiaapldaa", sum := "94af7f704340e07fbdbb8337843a0c5579d643d483c04b392ccaa8b0bfadf0e5", func := "spanmeadow/spanlaw2.FormHas", spec := "formHas", unfollowed := true, recurses := true, apart := false }
def FormHasSaid : Prop := formHasRow.holds Try.pinned (OpenSpec.ofChange formHasSpec)

/-- ITS FALSE NEIGHBOUR: 'it returns false'. Refute it at one input. -/
def formHasWrong : ChangeSpec := { name := "formHas", fn := fun _ => fun
  | [d1, d2, d3, d4] => { results := [.lit (.bool false)], args := [d1, d2, d3, d4] }
  | _ => none }
def FormHasWrongFalsely : Prop := formHasRow.holds Try.pinned (OpenSpec.ofChange formHasWrong)

/-- 'spanlaw4.FlowNone': WHATEVER THE INPUT: true; the input reads as it did. -/
def flowNoneSpec : ChangeSpec := { name := "flowNone", fn := fun _ => fun
  | [d1, d2] => { results := [.lit (.bool true)], args := [d1, d2] }
  | _ => none }
def flowNoneRow : OpenClaim := { program := "ytmnbgcbiaapldaa", sum := "94af7f704340e07fbdbb8337843a0c5579d643d483c04b392ccaa8b0bfadf0e5", func := "spanmeadow/spanlaw4.FlowNone", spec := "flowNone", unfollowed := true, recurses := true, apart := false }
def FlowNoneSaid : Prop := flowNoneRow.holds Try.pinned (OpenSpec.ofChange flowNoneSpec)

/-- ITS FALSE NEIGHBOUR: 'it returns false'. Refute it at one input. -/
def flowNoneWrong : ChangeSpec := { name := "flowNone", fn := fun _ => fun
  | [d1, d2] => { results := [.lit (.bool false)], args := [d1, d2] }
  | _ => none }
def FlowNoneWrongFalsely : Prop := flowNoneRow.holds Try.pinned (OpenSpec.ofChange flowNoneWrong)

/-- 'spanlaw1.MonoHas': WHATEVER THE INPUT: true; the input reads as it did. -/
def monoHasSpec : ChangeSpec := { name := "monoHas", fn := fun _ => fun
  | [d1, d2, d3, d4] => { results := [.lit (.bool true)], args := [d1, d2, d3, d4] }
  | _ => none }
def monoHasRow : OpenClaim := { program := "ytmnbgcbiaapldaa", sum := "94af7f704340e07fbdbb8337843a0c5579d643d483c04b392ccaa8b0bfadf0e5", func := "spanmeadow/spanlaw1.MonoHas", spec := "monoHas", unfollowed := true, recurses := true, apart := false }
def MonoHasSaid : Prop := monoHasRow.holds Try.pinned (OpenSpec.ofChange monoHasSpec)

/-- ITS FALSE NEIGHBOUR: 'it returns false'. Refute it at one input. -/
def monoHasWrong : ChangeSpec := { name := "monoHas", fn := fun _ => fun
  | [d1, d2, d3, d4] => { results := [.lit (.bool false)], args := [d1, d2, d3, d4] }
  | _ => none }
def MonoHasWrongFalsely : Prop := monoHasRow.holds Try.pinned (OpenSpec.ofChange monoHasWrong)

/-- 'spanlaw4.StepNone': WHATEVER THE INPUT: true; the input reads as it did. -/
def stepNoneSpec : ChangeSpec := { name := "stepNone", fn := fun _ => fun
  | [d1, d2] => { results := [.lit (.bool true)], args := [d1, d2] }
  | _ => none }
def stepNoneRow : OpenClaim := { program := "ytmnbgcbiaapldaa", sum := "94af7f704340e07fbdbb8337843a0c5579d643d483c04b392ccaa8b0bfadf0e5", func := "spanmeadow/spanlaw4.StepNone", spec := "stepNone", unfollowed := true, recurses := true, apart := false }
def StepNoneSaid : Prop := stepNoneRow.holds Try.pinned (OpenSpec.ofChange stepNoneSpec)

/-- ITS FALSE NEIGHBOUR: 'it returns false'. Refute it at one input. -/
def stepNoneWrong : ChangeSpec := { name := "stepNone", fn := fun _ => fun
  | [d1, d2] => { results := [.lit (.bool false)], args := [d1, d2] }
  | _ => none }
def StepNoneWrongFalsely : Prop := stepNoneRow.holds Try.pinned (OpenSpec.ofChange stepNoneWrong)

/-- 'spanlaw1.SplitHas': WHATEVER THE INPUT: true; the input reads as it did. -/
def splitHasSpec : ChangeSpec := { name := "splitHas", fn := fun _ => fun
  | [d1, d2, d3, d4] => { results := [.lit (.bool true)], args := [d1, d2, d3, d4] }
  | _ => none }
def splitHasRow : OpenClaim := { program := "ytmnbgcbiaapldaa", sum := "94af7f704340e07fbdbb8337843a0c5579d643d483c04b392ccaa8b0bfadf0e5", func := "spanmeadow/spanlaw1.SplitHas", spec := "splitHas", unfollowed := true, recurses := true, apart := false }
def SplitHasSaid : Prop := splitHasRow.holds Try.pinned (OpenSpec.ofChange splitHasSpec)

/-- ITS FALSE NEIGHBOUR: 'it returns false'. Refute it at one input. -/
def splitHasWrong : ChangeSpec := { name := "splitHas", fn := fun _ => fun
  | [d1, d2, d3, d4] => { results := [.lit (.bool false)], args := [d1, d2, d3, d4] }
  | _ => none }
def SplitHasWrongFalsely : Prop := splitHasRow.holds Try.pinned (OpenSpec.ofChange splitHasWrong)

/-- 'spanlaw4.HoldNone': WHATEVER THE INPUT: true; the input reads as it did. -/
def holdNoneSpec : ChangeSpec := { name := "holdNone", fn := fun _ => fun
  | [d1, d2] => { results := [.lit (.bool true)], args := [d1, d2] }
  | _ => none }
def holdNoneRow : OpenClaim := { program := "ytmnbgcbiaapldaa", sum := "94af7f704340e07fbdbb8337843a0c5579d643d483c04b392ccaa8b0bfadf0e5", func := "spanmeadow/spanlaw4.HoldNone", spec := "holdNone", unfollowed := true, recurses := true, apart := false }
def HoldNoneSaid : Prop := holdNoneRow.holds Try.pinned (OpenSpec.ofChange holdNoneSpec)

/-- ITS FALSE NEIGHBOUR: 'it returns false'. Refute it at one input. -/
def holdNoneWrong : ChangeSpec := { name := "holdNone", fn := fun _ => fun
  | [d1, d2] => { results := [.lit (.bool false)], args := [d1, d2] }
  | _ => none }
def HoldNoneWrongFalsely : Prop := holdNoneRow.holds Try.pinned (OpenSpec.ofChange holdNoneWrong)

/-- 'spanlaw4.SafeSelf': WHATEVER THE INPUT: true; the input reads as it did. -/
def safeSelfSpec : ChangeSpec := { name := "safeSelf", fn := fun _ => fun
  | [d1, d2, d3] => { results := [.lit (.bool true)], args := [d1, d2, d3] }
  | _ => none }
def safeSelfRow : OpenClaim := { program := "ytmnbgcbiaapldaa", sum := "94af7f704340e07fbdbb8337843a0c5579d643d483c04b392ccaa8b0bfadf0e5", func := "spanmeadow/spanlaw4.SafeSelf", spec := "safeSelf", unfollowed := true, recurses := true, apart := false }
def SafeSelfSaid : Prop := safeSelfRow.holds Try.pinned (OpenSpec.ofChange safeSelfSpec)

/-- ITS FALSE NEIGHBOUR: 'it returns false'. Refute it at one input. -/
def safeSelfWrong : ChangeSpec := { name := "safeSelf", fn := fun _ => fun
  | [d1, d2, d3] => { results := [.lit (.bool false)], args := [d1, d2, d3] }
  | _ => none }
def SafeSelfWrongFalsely : Prop := safeSelfRow.holds Try.pinned (OpenSpec.ofChange safeSelfWrong)

/-- 'spanlaw4.SplitOne': WHATEVER THE INPUT: true; the input reads as it did. -/
def splitOneSpec : ChangeSpec := { name := "splitOne", fn := fun _ => fun
  | [d1, d2] => { results := [.lit (.bool true)], args := [d1, d2] }
  | _ => none }
def splitOneRow : OpenClaim := { program := "ytmnbgcbiaapldaa", sum := "94af7f704340e07fbdbb8337843a0c5579d643d483c04b392ccaa8b0bfadf0e5", func := "spanmeadow/spanlaw4.SplitOne", spec := "splitOne", unfollowed := true, recurses := true, apart := false }
def SplitOneSaid : Prop := splitOneRow.holds Try.pinned (OpenSpec.ofChange splitOneSpec)

/-- ITS FALSE NEIGHBOUR: 'it returns false'. Refute it at one input. -/
def splitOneWrong : ChangeSpec := { name := "splitOne", fn := fun _ => fun
  | [d1, d2] => { results := [.lit (.bool false)], args := [d1, d2] }
  | _ => none }
def SplitOneWrongFalsely : Prop := splitOneRow.holds Try.pinned (OpenSpec.ofChange splitOneWrong)

/-- 'spanlaw4.CoverNone': WHATEVER THE INPUT: true; the input reads as it did. -/
def coverNoneSpec : ChangeSpec := { name := "coverNone", fn := fun _ => fun
  | [d1, d2] => { results := [.lit (.bool true)], args := [d1, d2] }
  | _ => none }
def coverNoneRow : OpenClaim := { program := "ytmnbgcbiaapldaa", sum := "94af7f704340e07fbdbb8337843a0c5579d643d483c04b392ccaa8b0bfadf0e5", func := "spanmeadow/spanlaw4.CoverNone", spec := "coverNone", unfollowed := true, recurses := true, apart := false }
def CoverNoneSaid : Prop := coverNoneRow.holds Try.pinned (OpenSpec.ofChange coverNoneSpec)

/-- ITS FALSE NEIGHBOUR: 'it returns false'. Refute it at one input. -/
def coverNoneWrong : ChangeSpec := { name := "coverNone", fn := fun _ => fun
  | [d1, d2] => { results := [.lit (.bool false)], args := [d1, d2] }
  | _ => none }
def CoverNoneWrongFalsely : Prop := coverNoneRow.holds Try.pinned (OpenSpec.ofChange coverNoneWrong)

/-- 'spanlaw2.StepHas': WHATEVER THE INPUT: true; the input reads as it did. -/
def stepHasSpec : ChangeSpec := { name := "stepHas", fn := fun _ => fun
  | [d1, d2, d3, d4] => { results := [.lit (.bool true)], args := [d1, d2, d3, d4] }
  | _ => none }
def stepHasRow : OpenClaim := { program := "ytmnbgcbiaapldaa", sum := "94af7f704340e07fbdbb8337843a0c5579d643d483c04b392ccaa8b0bfadf0e5", func := "spanmeadow/spanlaw2.StepHas", spec := "stepHas", unfollowed := true, recurses := true, apart := false }
def StepHasSaid : Prop := stepHasRow.holds Try.pinned (OpenSpec.ofChange stepHasSpec)

/-- ITS FALSE NEIGHBOUR: 'it returns false'. Refute it at one input. -/
def stepHasWrong : ChangeSpec := { name := "stepHas", fn := fun _ => fun
  | [d1, d2, d3, d4] => { results := [.lit (.bool false)], args := [d1, d2, d3, d4] }
  | _ => none }
def StepHasWrongFalsely : Prop := stepHasRow.holds Try.pinned (OpenSpec.ofChange stepHasWrong)

/-- 'spanlaw1.RootKept': WHATEVER THE INPUT: true; the input reads as it did. -/
def rootKeptSpec : ChangeSpec := { name := "rootKept", fn := fun _ => fun
  | [d1, d2, d3, d4] => { results := [.lit (.bool true)], args := [d1, d2, d3, d4] }
  | _ => none }
def rootKeptRow : OpenClaim := { program := "ytmnbgcbiaapldaa", sum := "94af7f704340e07fbdbb8337843a0c5579d643d483c04b392ccaa8b0bfadf0e5", func := "spanmeadow/spanlaw1.RootKept", spec := "rootKept", unfollowed := true, recurses := true, apart := false }
def RootKeptSaid : Prop := rootKeptRow.holds Try.pinned (OpenSpec.ofChange rootKeptSpec)

/-- ITS FALSE NEIGHBOUR: 'it returns false'. Refute it at one input. -/
def rootKeptWrong : ChangeSpec := { name := "rootKept", fn := fun _ => fun
  | [d1, d2, d3, d4] => { results := [.lit (.bool false)], args := [d1, d2, d3, d4] }
  | _ => none }
def RootKeptWrongFalsely : Prop := rootKeptRow.holds Try.pinned (OpenSpec.ofChange rootKeptWrong)

/-- 'spanlaw2.FlowHas': WHATEVER THE INPUT: true; the input reads as it did. -/
def flowHasSpec : ChangeSpec := { name := "flowHas", fn := fun _ => fun
  | [d1, d2, d3, d4] => { results := [.lit (.bool true)], args := [d1, d2, d3, d4] }
  | _ => none }
def flowHasRow : OpenClaim := { program := "ytmnbgcbiaapldaa", sum := "94af7f704340e07fbdbb8337843a0c5579d643d483c04b392ccaa8b0bfadf0e5", func := "spanmeadow/spanlaw2.FlowHas", spec := "flowHas", unfollowed := true, recurses := true, apart := false }
def FlowHasSaid : Prop := flowHasRow.holds Try.pinned (OpenSpec.ofChange flowHasSpec)

/-- ITS FALSE NEIGHBOUR: 'it returns false'. Refute it at one input. -/
def flowHasWrong : ChangeSpec := { name := "flowHas", fn := fun _ => fun
  | [d1, d2, d3, d4] => { results := [.lit (.bool false)], args := [d1, d2, d3, d4] }
  | _ => none }
def FlowHasWrongFalsely : Prop := flowHasRow.holds Try.pinned (OpenSpec.ofChange flowHasWrong)

/-- 'spanlaw4.NearNone': WHATEVER THE INPUT: true; the input reads as it did. -/
def nearNoneSpec : ChangeSpec := { name := "nearNone", fn := fun _ => fun
  | [d] => { results := [.lit (.bool true)], args := [d] }
  | _ => none }
def nearNoneRow : OpenClaim := { program := "ytmnbgcbiaapldaa", sum := "94af7f704340e07fbdbb8337843a0c5579d643d483c04b392ccaa8b0bfadf0e5", func := "spanmeadow/spanlaw4.NearNone", spec := "nearNone", unfollowed := true, recurses := true, apart := false }
def NearNoneSaid : Prop := nearNoneRow.holds Try.pinned (OpenSpec.ofChange nearNoneSpec)

/-- ITS FALSE NEIGHBOUR: 'it returns false'. Refute it at one input. -/
def nearNoneWrong : ChangeSpec := { name := "nearNone", fn := fun _ => fun
  | [d] => { results := [.lit (.bool false)], args := [d] }
  | _ => none }
def NearNoneWrongFalsely : Prop := nearNoneRow.holds Try.pinned (OpenSpec.ofChange nearNoneWrong)

/-- 'spanlaw2.CoverHas': WHATEVER THE INPUT: true; the input reads as it did. -/
def coverHasSpec : ChangeSpec := { name := "coverHas", fn := fun _ => fun
  | [d1, d2, d3, d4, d5] => { results := [.lit (.bool true)], args := [d1, d2, d3, d4, d5] }
  | _ => none }
def coverHasRow : OpenClaim := { program := "ytmnbgcbiaapldaa", sum := "94af7f704340e07fbdbb8337843a0c5579d643d483c04b392ccaa8b0bfadf0e5", func := "spanmeadow/spanlaw2.CoverHas", spec := "coverHas", unfollowed := true, recurses := true, apart := false }
def CoverHasSaid : Prop := coverHasRow.holds Try.pinned (OpenSpec.ofChange coverHasSpec)

/-- ITS FALSE NEIGHBOUR: 'it returns false'. Refute it at one input. -/
def coverHasWrong : ChangeSpec := { name := "coverHas", fn := fun _ => fun
  | [d1, d2, d3, d4, d5] => { results := [.lit (.bool false)], args := [d1, d2, d3, d4, d5] }
  | _ => none }
def CoverHasWrongFalsely : Prop := coverHasRow.holds Try.pinned (OpenSpec.ofChange coverHasWrong)

/-- 'spanlaw2.HoldStays': WHATEVER THE INPUT: true; the input reads as it did. -/
def holdStaysSpec : ChangeSpec := { name := "holdStays", fn := fun _ => fun
  | [d1, d2, d3, d4, d5] => { results := [.lit (.bool true)], args := [d1, d2, d3, d4, d5] }
  | _ => none }
def holdStaysRow : OpenClaim := { program := "ytmnbgcbiaapldaa", sum := "94af7f704340e07fbdbb8337843a0c5579d643d483c04b392ccaa8b0bfadf0e5", func := "spanmeadow/spanlaw2.HoldStays", spec := "holdStays", unfollowed := true, recurses := true, apart := false }
def HoldStaysSaid : Prop := holdStaysRow.holds Try.pinned (OpenSpec.ofChange holdStaysSpec)

/-- ITS FALSE NEIGHBOUR: 'it returns false'. Refute it at one input. -/
def holdStaysWrong : ChangeSpec := { name := "holdStays", fn := fun _ => fun
  | [d1, d2, d3, d4, d5] => { results := [.lit (.bool false)], args := [d1, d2, d3, d4, d5] }
  | _ => none }
def HoldStaysWrongFalsely : Prop := holdStaysRow.holds Try.pinned (OpenSpec.ofChange holdStaysWrong)

/-- 'spantop.TopTube': WHATEVER THE INPUT: true; the input reads as it did. -/
def topTubeSpec : ChangeSpec := { name := "topTube", fn := fun _ => fun
  | [d1, d2, d3, d4, d5, d6] => { results := [.lit (.bool true)], args := [d1, d2, d3, d4, d5, d6] }
  | _ => none }
def topTubeRow : OpenClaim := { program := "ytmnbgcbiaapldaa", sum := "94af7f704340e07fbdbb8337843a0c5579d643d483c04b392ccaa8b0bfadf0e5", func := "spanmeadow/spantop.TopTube", spec := "topTube", unfollowed := true, recurses := true, apart := false }
def TopTubeSaid : Prop := topTubeRow.holds Try.pinned (OpenSpec.ofChange topTubeSpec)

/-- ITS FALSE NEIGHBOUR: 'it returns false'. Refute it at one input. -/
def topTubeWrong : ChangeSpec := { name := "topTube", fn := fun _ => fun
  | [d1, d2, d3, d4, d5, d6] => { results := [.lit (.bool false)], args := [d1, d2, d3, d4, d5, d6] }
  | _ => none }
def TopTubeWrongFalsely : Prop := topTubeRow.holds Try.pinned (OpenSpec.ofChange topTubeWrong)

/-- 'spantop.TopPull': WHATEVER THE INPUT: true; the input reads as it did. -/
def topPullSpec : ChangeSpec := { name := "topPull", fn := fun _ => fun
  | [d1, d2, d3, d4, d5] => { results := [.lit (.bool true)], args := [d1, d2, d3, d4, d5] }
  | _ => none }
def topPullRow : OpenClaim := { program := "ytmnbgcbiaapldaa", sum := "94af7f704340e07fbdbb8337843a0c5579d643d483c04b392ccaa8b0bfadf0e5", func := "spanmeadow/spantop.TopPull", spec := "topPull", unfollowed := true, recurses := true, apart := false }
def TopPullSaid : Prop := topPullRow.holds Try.pinned (OpenSpec.ofChange topPullSpec)

/-- ITS FALSE NEIGHBOUR: 'it returns false'. Refute it at one input. -/
def topPullWrong : ChangeSpec := { name := "topPull", fn := fun _ => fun
  | [d1, d2, d3, d4, d5] => { results := [.lit (.bool false)], args := [d1, d2, d3, d4, d5] }
  | _ => none }
def TopPullWrongFalsely : Prop := topPullRow.holds Try.pinned (OpenSpec.ofChange topPullWrong)

/-- 'spanlaw2.NearPulls': WHATEVER THE INPUT: true; the input reads as it did. -/
def nearPullsSpec : ChangeSpec := { name := "nearPulls", fn := fun _ => fun
  | [d1, d2, d3, d4, d5] => { results := [.lit (.bool true)], args := [d1, d2, d3, d4, d5] }
  | _ => none }
def nearPullsRow : OpenClaim := { program := "ytmnbgcbiaapldaa", sum := "94af7f704340e07fbdbb8337843a0c5579d643d483c04b392ccaa8b0bfadf0e5", func := "spanmeadow/spanlaw2.NearPulls", spec := "nearPulls", unfollowed := true, recurses := true, apart := false }
def NearPullsSaid : Prop := nearPullsRow.holds Try.pinned (OpenSpec.ofChange nearPullsSpec)

/-- ITS FALSE NEIGHBOUR: 'it returns false'. Refute it at one input. -/
def nearPullsWrong : ChangeSpec := { name := "nearPulls", fn := fun _ => fun
  | [d1, d2, d3, d4, d5] => { results := [.lit (.bool false)], args := [d1, d2, d3, d4, d5] }
  | _ => none }
def NearPullsWrongFalsely : Prop := nearPullsRow.holds Try.pinned (OpenSpec.ofChange nearPullsWrong)

/- THE SECOND FORM. 'bulk': how many values and letters a reading holds, each counted each time it is reached (what is shared counts as often as it is met; a slice's spare places count too). A statement '..UptoSaid' is the law's where the arguments, and the package variables that the reading takes, are together of bulk at most 1048576: NARROWER than '..Said'. Prove '..Said' where nothing that the law and all that it calls make is longer than what came in: it says more and counts as full. Else prove '..UptoSaid'. A law counts once. -/
mutual
def uptoBulk {H : Type} : DataW H → Nat
  | .lit (.string bytes) => bytes.length + 1
  | .lit _ => 1
  | .nil => 1
  | .ptr d => uptoBulk d + 1
  | .slice elems spare => uptoBulkAll elems + uptoBulkAll spare + 1
  | .agg parts => uptoBulkAll parts + 1
  | .iface _ d => uptoBulk d + 1
  | .map entries => uptoBulkEntries entries + 1
  | .held _ => 1
def uptoBulkAll {H : Type} : List (DataW H) → Nat
  | [] => 0
  | d :: r => uptoBulk d + uptoBulkAll r
def uptoBulkEntries {H : Type} : List (Lit × DataW H) → Nat
  | [] => 0
  | x :: r => uptoBulkEntry x + uptoBulkEntries r
def uptoBulkEntry {H : Type} : Lit × DataW H → Nat
  | (.string bytes, d) => bytes.length + uptoBulk d + 1
  | (_, d) => uptoBulk d + 1
 end
def uptoSmall : (H : Type) → List (DataW H) → Bool := fun _ ds => decide (uptoBulkAll ds ≤ 1048576)
def OpenSpec.upto (s : _root_.Go.ChangeSpec) : _root_.Go.OpenSpec := { _root_.Go.OpenSpec.ofChange s with cond := some uptoSmall }

/-- 'spanlaw1.Names', WHERE WHAT IT READS IS OF BULK AT MOST 1048576: true; the input reads as it did. -/
def namesUptoRow : OpenClaim := { program := "ytmnbgcbiaapldaa", sum := "94af7f704340e07fbdbb8337843a0c5579d643d483c04b392ccaa8b0bfadf0e5", func := "spanmeadow/spanlaw1.Names", spec := "names", apart := false, narrowed := true }
def NamesUptoSaid : Prop := namesUptoRow.holds Try.pinned (OpenSpec.upto namesSpec)

/-- 'spanlaw4.SpanZero', WHERE WHAT IT READS IS OF BULK AT MOST 1048576: true; the input reads as it did. -/
def spanZeroUptoRow : OpenClaim := { program := "ytmnbgcbiaapldaa", sum := "94af7f704340e07fbdbb8337843a0c5579d643d483c04b392ccaa8b0bfadf0e5", func := "spanmeadow/spanlaw4.SpanZero", spec := "spanZero", unfollowed := true, recurses := true, apart := false, narrowed := true }
def SpanZeroUptoSaid : Prop := spanZeroUptoRow.holds Try.pinned (OpenSpec.upto spanZeroSpec)

/-- 'spanlaw4.NarrowPoint', WHERE WHAT IT READS IS OF BULK AT MOST 1048576: true; the input reads as it did. -/
def narrowPointUptoRow : OpenClaim := { program := "ytmnbgcbiaapldaa", sum := "94af7f704340e07fbdbb8337843a0c5579d643d483c04b392ccaa8b0bfadf0e5", func := "spanmeadow/spanlaw4.NarrowPoint", spec := "narrowPoint", unfollowed := true, recurses := true, apart := false, narrowed := true }
def NarrowPointUptoSaid : Prop := narrowPointUptoRow.holds Try.pinned (OpenSpec.upto narrowPointSpec)

/-- 'spanlaw4.PowerFirst', WHERE WHAT IT READS IS OF BULK AT MOST 1048576: true; the input reads as it did. -/
def powerFirstUptoRow : OpenClaim := { program := "ytmnbgcbiaapldaa", sum := "94af7f704340e07fbdbb8337843a0c5579d643d483c04b392ccaa8b0bfadf0e5", func := "spanmeadow/spanlaw4.PowerFirst", spec := "powerFirst", apart := false, narrowed := true }
def PowerFirstUptoSaid : Prop := powerFirstUptoRow.holds Try.pinned (OpenSpec.upto powerFirstSpec)

/-- 'spanlaw4.BoxPoint', WHERE WHAT IT READS IS OF BULK AT MOST 1048576: true; the input reads as it did. -/
def boxPointUptoRow : OpenClaim := { program := "ytmnbgcbiaapldaa", sum := "94af7f704340e07fbdbb8337843a0c5579d643d483c04b392ccaa8b0bfadf0e5", func := "spanmeadow/spanlaw4.BoxPoint", spec := "boxPoint", apart := false, narrowed := true }
def BoxPointUptoSaid : Prop := boxPointUptoRow.holds Try.pinned (OpenSpec.upto boxPointSpec)

/-- 'spanlaw1.PowerHas', WHERE WHAT IT READS IS OF BULK AT MOST 1048576: true; the input reads as it did. -/
def powerHasUptoRow : OpenClaim := { program := "ytmnbgcbiaapldaa", sum := "94af7f704340e07fbdbb8337843a0c5579d643d483c04b392ccaa8b0bfadf0e5", func := "spanmeadow/spanlaw1.PowerHas", spec := "powerHas", apart := false, narrowed := true }
def PowerHasUptoSaid : Prop := powerHasUptoRow.holds Try.pinned (OpenSpec.upto powerHasSpec)

/-- 'spanlaw1.BoxParts', WHERE WHAT IT READS IS OF BULK AT MOST 1048576: true; the input reads as it did. -/
def boxPartsUptoRow : OpenClaim := { program := "ytmnbgcbiaapldaa", sum := "94af7f704340e07fbdbb8337843a0c5579d643d483c04b392ccaa8b0bfadf0e5", func := "spanmeadow/spanlaw1.BoxParts", spec := "boxParts", apart := false, narrowed := true }
def BoxPartsUptoSaid : Prop := boxPartsUptoRow.holds Try.pinned (OpenSpec.upto boxPartsSpec)

/-- 'spanlaw4.MonoStraight', WHERE WHAT IT READS IS OF BULK AT MOST 1048576: true; the input reads as it did. -/
def monoStraightUptoRow : OpenClaim := { program := "ytmnbgcbiaapldaa", sum := "94af7f704340e07fbdbb8337843a0c5579d643d483c04b392ccaa8b0bfadf0e5", func := "spanmeadow/spanlaw4.MonoStraight", spec := "monoStraight", unfollowed := true, recurses := true, apart := false, narrowed := true }
def MonoStraightUptoSaid : Prop := monoStraightUptoRow.holds Try.pinned (OpenSpec.upto monoStraightSpec)

/-- 'spanlaw1.PolyHas', WHERE WHAT IT READS IS OF BULK AT MOST 1048576: true; the input reads as it did. -/
def polyHasUptoRow : OpenClaim := { program := "ytmnbgcbiaapldaa", sum := "94af7f704340e07fbdbb8337843a0c5579d643d483c04b392ccaa8b0bfadf0e5", func := "spanmeadow/spanlaw1.PolyHas", spec := "polyHas", unfollowed := true, recurses := true, apart := false, narrowed := true }
def PolyHasUptoSaid : Prop := polyHasUptoRow.holds Try.pinned (OpenSpec.upto polyHasSpec)

/-- 'spanlaw4.NewtonLine', WHERE WHAT IT READS IS OF BULK AT MOST 1048576: true; the input reads as it did. -/
def newtonLineUptoRow : OpenClaim := { program := "ytmnbgcbiaapldaa", sum := "94af7f704340e07fbdbb8337843a0c5579d643d483c04b392ccaa8b0bfadf0e5", func := "spanmeadow/spanlaw4.NewtonLine", spec := "newtonLine", unfollowed := true, recurses := true, apart := false, narrowed := true }
def NewtonLineUptoSaid : Prop := newtonLineUptoRow.holds Try.pinned (OpenSpec.upto newtonLineSpec)

/-- 'spanlaw4.PolyFlat', WHERE WHAT IT READS IS OF BULK AT MOST 1048576: true; the input reads as it did. -/
def polyFlatUptoRow : OpenClaim := { program := "ytmnbgcbiaapldaa", sum := "94af7f704340e07fbdbb8337843a0c5579d643d483c04b392ccaa8b0bfadf0e5", func := "spanmeadow/spanlaw4.PolyFlat", spec := "polyFlat", unfollowed := true, recurses := true, apart := false, narrowed := true }
def PolyFlatUptoSaid : Prop := polyFlatUptoRow.holds Try.pinned (OpenSpec.upto polyFlatSpec)

/-- 'spanlaw4.CenterPoint', WHERE WHAT IT READS IS OF BULK AT MOST 1048576: true; the input reads as it did. -/
def centerPointUptoRow : OpenClaim := { program := "ytmnbgcbiaapldaa", sum := "94af7f704340e07fbdbb8337843a0c5579d643d483c04b392ccaa8b0bfadf0e5", func := "spanmeadow/spanlaw4.CenterPoint", spec := "centerPoint", unfollowed := true, recurses := true, apart := false, narrowed := true }
def CenterPointUptoSaid : Prop := centerPointUptoRow.holds Try.pinned (OpenSpec.upto centerPointSpec)

/-- 'spanlaw1.CenterHas', WHERE WHAT IT READS IS OF BULK AT MOST 1048576: true; the input reads as it did. -/
def centerHasUptoRow : OpenClaim := { program := "ytmnbgcbiaapldaa", sum := "94af7f704340e07fbdbb8337843a0c5579d643d483c04b392ccaa8b0bfadf0e5", func := "spanmeadow/spanlaw1.CenterHas", spec := "centerHas", unfollowed := true, recurses := true, apart := false, narrowed := true }
def CenterHasUptoSaid : Prop := centerHasUptoRow.holds Try.pinned (OpenSpec.upto centerHasSpec)

/-- 'spanlaw2.FormHas', WHERE WHAT IT READS IS OF BULK AT MOST 1048576: true; the input reads as it did. -/
def formHasUptoRow : OpenClaim := { program := "ytmnbgcbiaapldaa", sum := "94af7f704340e07fbdbb8337843a0c5579d643d483c04b392ccaa8b0bfadf0e5", func := "spanmeadow/spanlaw2.FormHas", spec := "formHas", unfollowed := true, recurses := true, apart := false, narrowed := true }
def FormHasUptoSaid : Prop := formHasUptoRow.holds Try.pinned (OpenSpec.upto formHasSpec)

/-- 'spanlaw4.FlowNone', WHERE WHAT IT READS IS OF BULK AT MOST 1048576: true; the input reads as it did. -/
def flowNoneUptoRow : OpenClaim := { program := "ytmnbgcbiaapldaa", sum := "94af7f704340e07fbdbb8337843a0c5579d643d483c04b392ccaa8b0bfadf0e5", func := "spanmeadow/spanlaw4.FlowNone", spec := "flowNone", unfollowed := true, recurses := true, apart := false, narrowed := true }
def FlowNoneUptoSaid : Prop := flowNoneUptoRow.holds Try.pinned (OpenSpec.upto flowNoneSpec)

/-- 'spanlaw1.MonoHas', WHERE WHAT IT READS IS OF BULK AT MOST 1048576: true; the input reads as it did. -/
def monoHasUptoRow : OpenClaim := { program := "ytmnbgcbiaapldaa", sum := "94af7f704340e07fbdbb8337843a0c5579d643d483c04b392ccaa8b0bfadf0e5", func := "spanmeadow/spanlaw1.MonoHas", spec := "monoHas", unfollowed := true, recurses := true, apart := false, narrowed := true }
def MonoHasUptoSaid : Prop := monoHasUptoRow.holds Try.pinned (OpenSpec.upto monoHasSpec)

/-- 'spanlaw4.StepNone', WHERE WHAT IT READS IS OF BULK AT MOST 1048576: true; the input reads as it did. -/
def stepNoneUptoRow : OpenClaim := { program := "ytmnbgcbiaapldaa", sum := "94af7f704340e07fbdbb8337843a0c5579d643d483c04b392ccaa8b0bfadf0e5", func := "spanmeadow/spanlaw4.StepNone", spec := "stepNone", unfollowed := true, recurses := true, apart := false, narrowed := true }
def StepNoneUptoSaid : Prop := stepNoneUptoRow.holds Try.pinned (OpenSpec.upto stepNoneSpec)

/-- 'spanlaw1.SplitHas', WHERE WHAT IT READS IS OF BULK AT MOST 1048576: true; the input reads as it did. -/
def splitHasUptoRow : OpenClaim := { program := "ytmnbgcbiaapldaa", sum := "94af7f704340e07fbdbb8337843a0c5579d643d483c04b392ccaa8b0bfadf0e5", func := "spanmeadow/spanlaw1.SplitHas", spec := "splitHas", unfollowed := true, recurses := true, apart := false, narrowed := true }
def SplitHasUptoSaid : Prop := splitHasUptoRow.holds Try.pinned (OpenSpec.upto splitHasSpec)

/-- 'spanlaw4.HoldNone', WHERE WHAT IT READS IS OF BULK AT MOST 1048576: true; the input reads as it did. -/
def holdNoneUptoRow : OpenClaim := { program := "ytmnbgcbiaapldaa", sum := "94af7f704340e07fbdbb8337843a0c5579d643d483c04b392ccaa8b0bfadf0e5", func := "spanmeadow/spanlaw4.HoldNone", spec := "holdNone", unfollowed := true, recurses := true, apart := false, narrowed := true }
def HoldNoneUptoSaid : Prop := holdNoneUptoRow.holds Try.pinned (OpenSpec.upto holdNoneSpec)

/-- 'spanlaw4.SafeSelf', WHERE WHAT IT READS IS OF BULK AT MOST 1048576: true; the input reads as it did. -/
def safeSelfUptoRow : OpenClaim := { program := "ytmnbgcbiaapldaa", sum := "94af7f704340e07fbdbb8337843a0c5579d643d483c04b392ccaa8b0bfadf0e5", func := "spanmeadow/spanlaw4.SafeSelf", spec := "safeSelf", unfollowed := true, recurses := true, apart := false, narrowed := true }
def SafeSelfUptoSaid : Prop := safeSelfUptoRow.holds Try.pinned (OpenSpec.upto safeSelfSpec)

/-- 'spanlaw4.SplitOne', WHERE WHAT IT READS IS OF BULK AT MOST 1048576: true; the input reads as it did. -/
def splitOneUptoRow : OpenClaim := { program := "ytmnbgcbiaapldaa", sum := "94af7f704340e07fbdbb8337843a0c5579d643d483c04b392ccaa8b0bfadf0e5", func := "spanmeadow/spanlaw4.SplitOne", spec := "splitOne", unfollowed := true, recurses := true, apart := false, narrowed := true }
def SplitOneUptoSaid : Prop := splitOneUptoRow.holds Try.pinned (OpenSpec.upto splitOneSpec)

/-- 'spanlaw4.CoverNone', WHERE WHAT IT READS IS OF BULK AT MOST 1048576: true; the input reads as it did. -/
def coverNoneUptoRow : OpenClaim := { program := "ytmnbgcbiaapldaa", sum := "94af7f704340e07fbdbb8337843a0c5579d643d483c04b392ccaa8b0bfadf0e5", func := "spanmeadow/spanlaw4.CoverNone", spec := "coverNone", unfollowed := true, recurses := true, apart := false, narrowed := true }
def CoverNoneUptoSaid : Prop := coverNoneUptoRow.holds Try.pinned (OpenSpec.upto coverNoneSpec)

/-- 'spanlaw2.StepHas', WHERE WHAT IT READS IS OF BULK AT MOST 1048576: true; the input reads as it did. -/
def stepHasUptoRow : OpenClaim := { program := "ytmnbgcbiaapldaa", sum := "94af7f704340e07fbdbb8337843a0c5579d643d483c04b392ccaa8b0bfadf0e5", func := "spanmeadow/spanlaw2.StepHas", spec := "stepHas", unfollowed := true, recurses := true, apart := false, narrowed := true }
def StepHasUptoSaid : Prop := stepHasUptoRow.holds Try.pinned (OpenSpec.upto stepHasSpec)

/-- 'spanlaw1.RootKept', WHERE WHAT IT READS IS OF BULK AT MOST 1048576: true; the input reads as it did. -/
def rootKeptUptoRow : OpenClaim := { program := "ytmnbgcbiaapldaa", sum := "94af7f704340e07fbdbb8337843a0c5579d643d483c04b392ccaa8b0bfadf0e5", func := "spanmeadow/spanlaw1.RootKept", spec := "rootKept", unfollowed := true, recurses := true, apart := false, narrowed := true }
def RootKeptUptoSaid : Prop := rootKeptUptoRow.holds Try.pinned (OpenSpec.upto rootKeptSpec)

/-- 'spanlaw2.FlowHas', WHERE WHAT IT READS IS OF BULK AT MOST 1048576: true; the input reads as it did. -/
def flowHasUptoRow : OpenClaim := { program := "ytmnbgcbiaapldaa", sum := "94af7f704340e07fbdbb8337843a0c5579d643d483c04b392ccaa8b0bfadf0e5", func := "spanmeadow/spanlaw2.FlowHas", spec := "flowHas", unfollowed := true, recurses := true, apart := false, narrowed := true }
def FlowHasUptoSaid : Prop := flowHasUptoRow.holds Try.pinned (OpenSpec.upto flowHasSpec)

/-- 'spanlaw4.NearNone', WHERE WHAT IT READS IS OF BULK AT MOST 1048576: true; the input reads as it did. -/
def nearNoneUptoRow : OpenClaim := { program := "ytmnbgcbiaapldaa", sum := "94af7f704340e07fbdbb8337843a0c5579d643d483c04b392ccaa8b0bfadf0e5", func := "spanmeadow/spanlaw4.NearNone", spec := "nearNone", unfollowed := true, recurses := true, apart := false, narrowed := true }
def NearNoneUptoSaid : Prop := nearNoneUptoRow.holds Try.pinned (OpenSpec.upto nearNoneSpec)

/-- 'spanlaw2.CoverHas', WHERE WHAT IT READS IS OF BULK AT MOST 1048576: true; the input reads as it did. -/
def coverHasUptoRow : OpenClaim := { program := "ytmnbgcbiaapldaa", sum := "94af7f704340e07fbdbb8337843a0c5579d643d483c04b392ccaa8b0bfadf0e5", func := "spanmeadow/spanlaw2.CoverHas", spec := "coverHas", unfollowed := true, recurses := true, apart := false, narrowed := true }
def CoverHasUptoSaid : Prop := coverHasUptoRow.holds Try.pinned (OpenSpec.upto coverHasSpec)

/-- 'spanlaw2.HoldStays', WHERE WHAT IT READS IS OF BULK AT MOST 1048576: true; the input reads as it did. -/
def holdStaysUptoRow : OpenClaim := { program := "ytmnbgcbiaapldaa", sum := "94af7f704340e07fbdbb8337843a0c5579d643d483c04b392ccaa8b0bfadf0e5", func := "spanmeadow/spanlaw2.HoldStays", spec := "holdStays", unfollowed := true, recurses := true, apart := false, narrowed := true }
def HoldStaysUptoSaid : Prop := holdStaysUptoRow.holds Try.pinned (OpenSpec.upto holdStaysSpec)

/-- 'spantop.TopTube', WHERE WHAT IT READS IS OF BULK AT MOST 1048576: true; the input reads as it did. -/
def topTubeUptoRow : OpenClaim := { program := "ytmnbgcbiaapldaa", sum := "94af7f704340e07fbdbb8337843a0c5579d643d483c04b392ccaa8b0bfadf0e5", func := "spanmeadow/spantop.TopTube", spec := "topTube", unfollowed := true, recurses := true, apart := false, narrowed := true }
def TopTubeUptoSaid : Prop := topTubeUptoRow.holds Try.pinned (OpenSpec.upto topTubeSpec)

/-- 'spantop.TopPull', WHERE WHAT IT READS IS OF BULK AT MOST 1048576: true; the input reads as it did. -/
def topPullUptoRow : OpenClaim := { program := "ytmnbgcbiaapldaa", sum := "94af7f704340e07fbdbb8337843a0c5579d643d483c04b392ccaa8b0bfadf0e5", func := "spanmeadow/spantop.TopPull", spec := "topPull", unfollowed := true, recurses := true, apart := false, narrowed := true }
def TopPullUptoSaid : Prop := topPullUptoRow.holds Try.pinned (OpenSpec.upto topPullSpec)

/-- 'spanlaw2.NearPulls', WHERE WHAT IT READS IS OF BULK AT MOST 1048576: true; the input reads as it did. -/
def nearPullsUptoRow : OpenClaim := { program := "ytmnbgcbiaapldaa", sum := "94af7f704340e07fbdbb8337843a0c5579d643d483c04b392ccaa8b0bfadf0e5", func := "spanmeadow/spanlaw2.NearPulls", spec := "nearPulls", unfollowed := true, recurses := true, apart := false, narrowed := true }
def NearPullsUptoSaid : Prop := nearPullsUptoRow.holds Try.pinned (OpenSpec.upto nearPullsSpec)

end Rows
end Go.Proofs.Ytmnbgcbiaapldaa
