/-
  NARROWER THAN 'FOR EVERY INPUT', by the rows' own cells (each row's printed sentence says how): NarrowTells: laid · NarrowKeeps: laid · BoxTells: laid · TopRoots: laid · NewtonTells: laid · PolyTells: laid · FormTells: laid · CenterTells: laid · MonoTells: laid · SplitTells: laid · RootLine: laid · RootTells: laid.
  DERIVED. THE GIVEN ROWS OF THIS SEAT. 12 by the template 'for every input the law returns true; each argument reads behind the call as it read before'; 0 by the template 'total and deterministic' (their statements: YtafhcppigpjcpaaDoorTotals.lean).
  GIVEN WITH THE SEED: the statements are not yours to turn. If you find one false, say at which input.
  Laid BY PROGRAM, IN A SANDBOX (cutbox-rows.mjs): the forced cells as the released guide's own fill.sh prints them over the translation 2bc87ad4b7dd15c0… (all of the seat's roots in one cut). By AI agents, Wed Nov 11 2026. No macro, syntax, notation, axiom, sorry.
-/
import Derived.Test.YtafhcppigpjcpaaDoorChecked
import GoSem.Claim
import GoSem.ClaimJoined
import GoSem.ClaimMapViews
import Derived.JoinedTies
import Derived.KernelRfl
namespace Go.Proofs.YtafhcppigpjcpaaDoor
/- THE CELL 'sum', in the pinned program and in every row, IS THE sha256 OF THE DUMP (.gsa) THAT YtafhcppigpjcpaaDoorProg.lean LOADS. Nothing in Lean hashes anything: it is a label: what it is worth is what the hold of that sum in a sandbox is worth. -/
noncomputable def Tryd.pinned : Pinned := { name := "ytafhcppigpjcpaadoor", sum := "2bc87ad4b7dd15c076fb533c937f3f3d2a8bae9cc876e07748f0761b906aae51", checked := Tryd.checked }
namespace Rows
def none {H : Type} : Left H := { results := [], args := [] }

/- WHAT THE LISTED PACKAGE-LEVEL VARIABLES READ AS WHEN THE CALL BEGINS. Each datum BY PROGRAM (the guide's laid-datum.mjs) off the statement by which the dump's own 'gosem.cut.vars' lays the variable. In a bare row this is a premise. The card (YtafhcppigpjcpaaDoorCards.lean) ties it to the program's text. -/
def laid_errors_errorType {H : Type} : DataW H := .iface "internal/reflectlite.rtype" (.agg [.ptr (.lit (.string [101, 114, 114, 111, 114]))])

/-- 'spanlaw2.NarrowTells': WHATEVER THE INPUT: true; the input reads as it did. -/
def narrowTellsSpec : ChangeSpec := { name := "narrowTells", fn := fun _ => fun
  | [d1, d2, d3] => { results := [.lit (.bool true)], args := [d1, d2, d3] }
  | _ => none }
def narrowTellsRow : OpenClaim := { program := "ytafhcppigpjcpaadoor", sum := "2bc87ad4b7dd15c076fb533c937f3f3d2a8bae9cc876e07748f0761b906aae51", func := "spanmeadow/spanlaw2.NarrowTells", spec := "narrowTells", inPlace := ["internal/reflectlite.ValueOf", "(internal/reflectlite.Value).Type", "(internal/reflectlite.Value).IsNil", "internal/reflectlite.TypeOf", "(internal/reflectlite.Value).Elem", "(internal/reflectlite.Value).Set"], unfollowed := true, recurses := true, named := ["errors.errorType"], apart := false, laid := [("errors.errorType", laid_errors_errorType)] }
def NarrowTellsSaid : Prop := narrowTellsRow.holds Tryd.pinned (OpenSpec.ofChange narrowTellsSpec)

/-- ITS FALSE NEIGHBOUR: 'it returns false'. Refute it at one input. -/
def narrowTellsWrong : ChangeSpec := { name := "narrowTells", fn := fun _ => fun
  | [d1, d2, d3] => { results := [.lit (.bool false)], args := [d1, d2, d3] }
  | _ => none }
def NarrowTellsWrongFalsely : Prop := narrowTellsRow.holds Tryd.pinned (OpenSpec.ofChange narrowTellsWrong)

/-- 'spanlaw2.NarrowKeeps': WHATEVER THE INPUT: true; the input reads as it did. -/
def narrowKeepsSpec : ChangeSpec := { name := "narrowKeeps", fn := fun _ => fun
  | [d1, d2, d3, d4, d5] => { results := [.lit (.bool true)], args := [d1, d2, d3, d4, d5] }
  | _ => none }
def narrowKeepsRow : OpenClaim := { program := "ytafhcppigpjcpaadoor", sum := "2bc87ad4b7dd15c076fb533c937f3f3d2a8bae9cc876e07748f0761b906aae51", func := "spanmeadow/spanlaw2.NarrowKeeps", spec := "narrowKeeps", inPlace := ["internal/reflectlite.ValueOf", "(internal/reflectlite.Value).Type", "(internal/reflectlite.Value).IsNil", "internal/reflectlite.TypeOf", "(internal/reflectlite.Value).Elem", "(internal/reflectlite.Value).Set"], unfollowed := true, recurses := true, named := ["errors.errorType"], apart := false, laid := [("errors.errorType", laid_errors_errorType)] }
def NarrowKeepsSaid : Prop := narrowKeepsRow.holds Tryd.pinned (OpenSpec.ofChange narrowKeepsSpec)

/-- ITS FALSE NEIGHBOUR: 'it returns false'. Refute it at one input. -/
def narrowKeepsWrong : ChangeSpec := { name := "narrowKeeps", fn := fun _ => fun
  | [d1, d2, d3, d4, d5] => { results := [.lit (.bool false)], args := [d1, d2, d3, d4, d5] }
  | _ => none }
def NarrowKeepsWrongFalsely : Prop := narrowKeepsRow.holds Tryd.pinned (OpenSpec.ofChange narrowKeepsWrong)

/-- 'spanlaw1.BoxTells': WHATEVER THE INPUT: true; the input reads as it did. -/
def boxTellsSpec : ChangeSpec := { name := "boxTells", fn := fun _ => fun
  | [d1, d2, d3] => { results := [.lit (.bool true)], args := [d1, d2, d3] }
  | _ => none }
def boxTellsRow : OpenClaim := { program := "ytafhcppigpjcpaadoor", sum := "2bc87ad4b7dd15c076fb533c937f3f3d2a8bae9cc876e07748f0761b906aae51", func := "spanmeadow/spanlaw1.BoxTells", spec := "boxTells", inPlace := ["internal/reflectlite.ValueOf", "(internal/reflectlite.Value).Type", "(internal/reflectlite.Value).IsNil", "internal/reflectlite.TypeOf", "(internal/reflectlite.Value).Elem", "(internal/reflectlite.Value).Set"], unfollowed := true, recurses := true, named := ["errors.errorType"], apart := false, laid := [("errors.errorType", laid_errors_errorType)] }
def BoxTellsSaid : Prop := boxTellsRow.holds Tryd.pinned (OpenSpec.ofChange boxTellsSpec)

/-- ITS FALSE NEIGHBOUR: 'it returns false'. Refute it at one input. -/
def boxTellsWrong : ChangeSpec := { name := "boxTells", fn := fun _ => fun
  | [d1, d2, d3] => { results := [.lit (.bool false)], args := [d1, d2, d3] }
  | _ => none }
def BoxTellsWrongFalsely : Prop := boxTellsRow.holds Tryd.pinned (OpenSpec.ofChange boxTellsWrong)

/-- 'spantop.TopRoots': WHATEVER THE INPUT: true; the input reads as it did. -/
def topRootsSpec : ChangeSpec := { name := "topRoots", fn := fun _ => fun
  | [d1, d2, d3, d4, d5] => { results := [.lit (.bool true)], args := [d1, d2, d3, d4, d5] }
  | _ => none }
def topRootsRow : OpenClaim := { program := "ytafhcppigpjcpaadoor", sum := "2bc87ad4b7dd15c076fb533c937f3f3d2a8bae9cc876e07748f0761b906aae51", func := "spanmeadow/spantop.TopRoots", spec := "topRoots", inPlace := ["internal/reflectlite.ValueOf", "(internal/reflectlite.Value).Type", "(internal/reflectlite.Value).IsNil", "internal/reflectlite.TypeOf", "(internal/reflectlite.Value).Elem", "(internal/reflectlite.Value).Set"], unfollowed := true, recurses := true, named := ["errors.errorType"], apart := false, laid := [("errors.errorType", laid_errors_errorType)] }
def TopRootsSaid : Prop := topRootsRow.holds Tryd.pinned (OpenSpec.ofChange topRootsSpec)

/-- ITS FALSE NEIGHBOUR: 'it returns false'. Refute it at one input. -/
def topRootsWrong : ChangeSpec := { name := "topRoots", fn := fun _ => fun
  | [d1, d2, d3, d4, d5] => { results := [.lit (.bool false)], args := [d1, d2, d3, d4, d5] }
  | _ => none }
def TopRootsWrongFalsely : Prop := topRootsRow.holds Tryd.pinned (OpenSpec.ofChange topRootsWrong)

/-- 'spanlaw1.NewtonTells': WHATEVER THE INPUT: true; the input reads as it did. -/
def newtonTellsSpec : ChangeSpec := { name := "newtonTells", fn := fun _ => fun
  | [d1, d2, d3] => { results := [.lit (.bool true)], args := [d1, d2, d3] }
  | _ => none }
def newtonTellsRow : OpenClaim := { program := "ytafhcppigpjcpaadoor", sum := "2bc87ad4b7dd15c076fb533c937f3f3d2a8bae9cc876e07748f0761b906aae51", func := "spanmeadow/spanlaw1.NewtonTells", spec := "newtonTells", inPlace := ["internal/reflectlite.ValueOf", "(internal/reflectlite.Value).Type", "(internal/reflectlite.Value).IsNil", "internal/reflectlite.TypeOf", "(internal/reflectlite.Value).Elem", "(internal/reflectlite.Value).Set"], unfollowed := true, recurses := true, named := ["errors.errorType"], apart := false, laid := [("errors.errorType", laid_errors_errorType)] }
def NewtonTellsSaid : Prop := newtonTellsRow.holds Tryd.pinned (OpenSpec.ofChange newtonTellsSpec)

/-- ITS FALSE NEIGHBOUR: 'it returns false'. Refute it at one input. -/
def newtonTellsWrong : ChangeSpec := { name := "newtonTells", fn := fun _ => fun
  | [d1, d2, d3] => { results := [.lit (.bool false)], args := [d1, d2, d3] }
  | _ => none }
def NewtonTellsWrongFalsely : Prop := newtonTellsRow.holds Tryd.pinned (OpenSpec.ofChange newtonTellsWrong)

/-- 'spanlaw1.PolyTells': WHATEVER THE INPUT: true; the input reads as it did. -/
def polyTellsSpec : ChangeSpec := { name := "polyTells", fn := fun _ => fun
  | [d1, d2] => { results := [.lit (.bool true)], args := [d1, d2] }
  | _ => none }
def polyTellsRow : OpenClaim := { program := "ytafhcppigpjcpaadoor", sum := "2bc87ad4b7dd15c076fb533c937f3f3d2a8bae9cc876e07748f0761b906aae51", func := "spanmeadow/spanlaw1.PolyTells", spec := "polyTells", inPlace := ["internal/reflectlite.ValueOf", "(internal/reflectlite.Value).Type", "(internal/reflectlite.Value).IsNil", "internal/reflectlite.TypeOf", "(internal/reflectlite.Value).Elem", "(internal/reflectlite.Value).Set"], unfollowed := true, recurses := true, named := ["errors.errorType"], apart := false, laid := [("errors.errorType", laid_errors_errorType)] }
def PolyTellsSaid : Prop := polyTellsRow.holds Tryd.pinned (OpenSpec.ofChange polyTellsSpec)

/-- ITS FALSE NEIGHBOUR: 'it returns false'. Refute it at one input. -/
def polyTellsWrong : ChangeSpec := { name := "polyTells", fn := fun _ => fun
  | [d1, d2] => { results := [.lit (.bool false)], args := [d1, d2] }
  | _ => none }
def PolyTellsWrongFalsely : Prop := polyTellsRow.holds Tryd.pinned (OpenSpec.ofChange polyTellsWrong)

/-- 'spanlaw2.FormTells': WHATEVER THE INPUT: true; the input reads as it did. -/
def formTellsSpec : ChangeSpec := { name := "formTells", fn := fun _ => fun
  | [d1, d2, d3, d4] => { results := [.lit (.bool true)], args := [d1, d2, d3, d4] }
  | _ => none }
def formTellsRow : OpenClaim := { program := "ytafhcppigpjcpaadoor", sum := "2bc87ad4b7dd15c076fb533c937f3f3d2a8bae9cc876e07748f0761b906aae51", func := "spanmeadow/spanlaw2.FormTells", spec := "formTells", inPlace := ["internal/reflectlite.ValueOf", "(internal/reflectlite.Value).Type", "(internal/reflectlite.Value).IsNil", "internal/reflectlite.TypeOf", "(internal/reflectlite.Value).Elem", "(internal/reflectlite.Value).Set"], unfollowed := true, recurses := true, named := ["errors.errorType"], apart := false, laid := [("errors.errorType", laid_errors_errorType)] }
def FormTellsSaid : Prop := formTellsRow.holds Tryd.pinned (OpenSpec.ofChange formTellsSpec)

/-- ITS FALSE NEIGHBOUR: 'it returns false'. Refute it at one input. -/
def formTellsWrong : ChangeSpec := { name := "formTells", fn := fun _ => fun
  | [d1, d2, d3, d4] => { results := [.lit (.bool false)], args := [d1, d2, d3, d4] }
  | _ => none }
def FormTellsWrongFalsely : Prop := formTellsRow.holds Tryd.pinned (OpenSpec.ofChange formTellsWrong)

/-- 'spanlaw1.CenterTells': WHATEVER THE INPUT: true; the input reads as it did. -/
def centerTellsSpec : ChangeSpec := { name := "centerTells", fn := fun _ => fun
  | [d1, d2] => { results := [.lit (.bool true)], args := [d1, d2] }
  | _ => none }
def centerTellsRow : OpenClaim := { program := "ytafhcppigpjcpaadoor", sum := "2bc87ad4b7dd15c076fb533c937f3f3d2a8bae9cc876e07748f0761b906aae51", func := "spanmeadow/spanlaw1.CenterTells", spec := "centerTells", inPlace := ["internal/reflectlite.ValueOf", "(internal/reflectlite.Value).Type", "(internal/reflectlite.Value).IsNil", "internal/reflectlite.TypeOf", "(internal/reflectlite.Value).Elem", "(internal/reflectlite.Value).Set"], unfollowed := true, recurses := true, named := ["errors.errorType"], apart := false, laid := [("errors.errorType", laid_errors_errorType)] }
def CenterTellsSaid : Prop := centerTellsRow.holds Tryd.pinned (OpenSpec.ofChange centerTellsSpec)

/-- ITS FALSE NEIGHBOUR: 'it returns false'. Refute it at one input. -/
def centerTellsWrong : ChangeSpec := { name := "centerTells", fn := fun _ => fun
  | [d1, d2] => { results := [.lit (.bool false)], args := [d1, d2] }
  | _ => none }
def CenterTellsWrongFalsely : Prop := centerTellsRow.holds Tryd.pinned (OpenSpec.ofChange centerTellsWrong)

/-- 'spanlaw1.MonoTells': WHATEVER THE INPUT: true; the input reads as it did. -/
def monoTellsSpec : ChangeSpec := { name := "monoTells", fn := fun _ => fun
  | [d1, d2] => { results := [.lit (.bool true)], args := [d1, d2] }
  | _ => none }
def monoTellsRow : OpenClaim := { program := "ytafhcppigpjcpaadoor", sum := "2bc87ad4b7dd15c076fb533c937f3f3d2a8bae9cc876e07748f0761b906aae51", func := "spanmeadow/spanlaw1.MonoTells", spec := "monoTells", inPlace := ["internal/reflectlite.ValueOf", "(internal/reflectlite.Value).Type", "(internal/reflectlite.Value).IsNil", "internal/reflectlite.TypeOf", "(internal/reflectlite.Value).Elem", "(internal/reflectlite.Value).Set"], unfollowed := true, recurses := true, named := ["errors.errorType"], apart := false, laid := [("errors.errorType", laid_errors_errorType)] }
def MonoTellsSaid : Prop := monoTellsRow.holds Tryd.pinned (OpenSpec.ofChange monoTellsSpec)

/-- ITS FALSE NEIGHBOUR: 'it returns false'. Refute it at one input. -/
def monoTellsWrong : ChangeSpec := { name := "monoTells", fn := fun _ => fun
  | [d1, d2] => { results := [.lit (.bool false)], args := [d1, d2] }
  | _ => none }
def MonoTellsWrongFalsely : Prop := monoTellsRow.holds Tryd.pinned (OpenSpec.ofChange monoTellsWrong)

/-- 'spanlaw1.SplitTells': WHATEVER THE INPUT: true; the input reads as it did. -/
def splitTellsSpec : ChangeSpec := { name := "splitTells", fn := fun _ => fun
  | [d1, d2, d3] => { results := [.lit (.bool true)], args := [d1, d2, d3] }
  | _ => none }
def splitTellsRow : OpenClaim := { program := "ytafhcppigpjcpaadoor", sum := "2bc87ad4b7dd15c076fb533c937f3f3d2a8bae9cc876e07748f0761b906aae51", func := "spanmeadow/spanlaw1.SplitTells", spec := "splitTells", inPlace := ["internal/reflectlite.ValueOf", "(internal/reflectlite.Value).Type", "(internal/reflectlite.Value).IsNil", "internal/reflectlite.TypeOf", "(internal/reflectlite.Value).Elem", "(internal/reflectlite.Value).Set"], unfollowed := true, recurses := true, named := ["errors.errorType"], apart := false, laid := [("errors.errorType", laid_errors_errorType)] }
def SplitTellsSaid : Prop := splitTellsRow.holds Tryd.pinned (OpenSpec.ofChange splitTellsSpec)

/-- ITS FALSE NEIGHBOUR: 'it returns false'. Refute it at one input. -/
def splitTellsWrong : ChangeSpec := { name := "splitTells", fn := fun _ => fun
  | [d1, d2, d3] => { results := [.lit (.bool false)], args := [d1, d2, d3] }
  | _ => none }
def SplitTellsWrongFalsely : Prop := splitTellsRow.holds Tryd.pinned (OpenSpec.ofChange splitTellsWrong)

/-- 'spanlaw4.RootLine': WHATEVER THE INPUT: true; the input reads as it did. -/
def rootLineSpec : ChangeSpec := { name := "rootLine", fn := fun _ => fun
  | [d1, d2] => { results := [.lit (.bool true)], args := [d1, d2] }
  | _ => none }
def rootLineRow : OpenClaim := { program := "ytafhcppigpjcpaadoor", sum := "2bc87ad4b7dd15c076fb533c937f3f3d2a8bae9cc876e07748f0761b906aae51", func := "spanmeadow/spanlaw4.RootLine", spec := "rootLine", inPlace := ["internal/reflectlite.ValueOf", "(internal/reflectlite.Value).Type", "(internal/reflectlite.Value).IsNil", "internal/reflectlite.TypeOf", "(internal/reflectlite.Value).Elem", "(internal/reflectlite.Value).Set"], unfollowed := true, recurses := true, named := ["errors.errorType"], apart := false, laid := [("errors.errorType", laid_errors_errorType)] }
def RootLineSaid : Prop := rootLineRow.holds Tryd.pinned (OpenSpec.ofChange rootLineSpec)

/-- ITS FALSE NEIGHBOUR: 'it returns false'. Refute it at one input. -/
def rootLineWrong : ChangeSpec := { name := "rootLine", fn := fun _ => fun
  | [d1, d2] => { results := [.lit (.bool false)], args := [d1, d2] }
  | _ => none }
def RootLineWrongFalsely : Prop := rootLineRow.holds Tryd.pinned (OpenSpec.ofChange rootLineWrong)

/-- 'spanlaw1.RootTells': WHATEVER THE INPUT: true; the input reads as it did. -/
def rootTellsSpec : ChangeSpec := { name := "rootTells", fn := fun _ => fun
  | [d1, d2, d3] => { results := [.lit (.bool true)], args := [d1, d2, d3] }
  | _ => none }
def rootTellsRow : OpenClaim := { program := "ytafhcppigpjcpaadoor", sum := "2bc87ad4b7dd15c076fb533c937f3f3d2a8bae9cc876e07748f0761b906aae51", func := "spanmeadow/spanlaw1.RootTells", spec := "rootTells", inPlace := ["internal/reflectlite.ValueOf", "(internal/reflectlite.Value).Type", "(internal/reflectlite.Value).IsNil", "internal/reflectlite.TypeOf", "(internal/reflectlite.Value).Elem", "(internal/reflectlite.Value).Set"], unfollowed := true, recurses := true, named := ["errors.errorType"], apart := false, laid := [("errors.errorType", laid_errors_errorType)] }
def RootTellsSaid : Prop := rootTellsRow.holds Tryd.pinned (OpenSpec.ofChange rootTellsSpec)

/-- ITS FALSE NEIGHBOUR: 'it returns false'. Refute it at one input. -/
def rootTellsWrong : ChangeSpec := { name := "rootTells", fn := fun _ => fun
  | [d1, d2, d3] => { results := [.lit (.bool false)], args := [d1, d2, d3] }
  | _ => none }
def RootTellsWrongFalsely : Prop := rootTellsRow.holds Tryd.pinned (OpenSpec.ofChange rootTellsWrong)

/- THE SECOND FORM. 'bulk': how many values and letters a reading holds, each counted each time it is reached (what is shared counts as often as it is met; a slice's spare places count too). A statement '..UptoSaid' is the law's where the arguments, and the package variables that the reading takes, are together of bulk at most 1048576: NARROWER than '..Said'. Prove '..Said' where nothing that the law and all that it calls make is longer than what came in: it says more and counts as full. Else prove '..UptoSaid'. A law counts once. -/
mutual
def uptoBulk {H : Type} : DataW H → Nat
  | .lit (.string bytes) => bytes.length + 1
  | .lit _ => 1
  | .nil => 1
  | .ptr d => uptoBulk d + 1
  | .slice elems spare => uptoBulkAll elems + uptoBulkAll spare + 1
  | .agg parts => uptoBulkAll parts + 1
  | .iface _ d => uptoBulk d + 1
  | .map entries => uptoBulkEntries entries + 1
  | .held _ => 1
def uptoBulkAll {H : Type} : List (DataW H) → Nat
  | [] => 0
  | d :: r => uptoBulk d + uptoBulkAll r
def uptoBulkEntries {H : Type} : List (Lit × DataW H) → Nat
  | [] => 0
  | x :: r => uptoBulkEntry x + uptoBulkEntries r
def uptoBulkEntry {H : Type} : Lit × DataW H → Nat
  | (.string bytes, d) => bytes.length + uptoBulk d + 1
  | (_, d) => uptoBulk d + 1
 end
def uptoSmall : (H : Type) → List (DataW H) → Bool := fun _ ds => decide (uptoBulkAll ds ≤ 1048576)
def OpenSpec.upto (s : _root_.Go.ChangeSpec) : _root_.Go.OpenSpec := { _root_.Go.OpenSpec.ofChange s with cond := some uptoSmall }

/-- 'spanlaw2.NarrowTells', WHERE WHAT IT READS IS OF BULK AT MOST 1048576: true; the input reads as it did. -/
def narrowTellsUptoRow : OpenClaim := { program := "ytafhcppigpjcpaadoor", sum := "2bc87ad4b7dd15c076fb533c937f3f3d2a8bae9cc876e07748f0761b906aae51", func := "spanmeadow/spanlaw2.NarrowTells", spec := "narrowTells", inPlace := ["internal/reflectlite.ValueOf", "(internal/reflectlite.Value).Type", "(internal/reflectlite.Value).IsNil", "internal/reflectlite.TypeOf", "(internal/reflectlite.Value).Elem", "(internal/reflectlite.Value).Set"], unfollowed := true, recurses := true, named := ["errors.errorType"], apart := false, laid := [("errors.errorType", laid_errors_errorType)], narrowed := true }
def NarrowTellsUptoSaid : Prop := narrowTellsUptoRow.holds Tryd.pinned (OpenSpec.upto narrowTellsSpec)

/-- 'spanlaw2.NarrowKeeps', WHERE WHAT IT READS IS OF BULK AT MOST 1048576: true; the input reads as it did. -/
def narrowKeepsUptoRow : OpenClaim := { program := "ytafhcppigpjcpaadoor", sum := "2bc87ad4b7dd15c076fb533c937f3f3d2a8bae9cc876e07748f0761b906aae51", func := "spanmeadow/spanlaw2.NarrowKeeps", spec := "narrowKeeps", inPlace := ["internal/reflectlite.ValueOf", "(internal/reflectlite.Value).Type", "(internal/reflectlite.Value).IsNil", "internal/reflectlite.TypeOf", "(internal/reflectlite.Value).Elem", "(internal/reflectlite.Value).Set"], unfollowed := true, recurses := true, named := ["errors.errorType"], apart := false, laid := [("errors.errorType", laid_errors_errorType)], narrowed := true }
def NarrowKeepsUptoSaid : Prop := narrowKeepsUptoRow.holds Tryd.pinned (OpenSpec.upto narrowKeepsSpec)

/-- 'spanlaw1.BoxTells', WHERE WHAT IT READS IS OF BULK AT MOST 1048576: true; the input reads as it did. -/
def boxTellsUptoRow : OpenClaim := { program := "ytafhcppigpjcpaadoor", sum := "2bc87ad4b7dd15c076fb533c937f3f3d2a8bae9cc876e07748f0761b906aae51", func := "spanmeadow/spanlaw1.BoxTells", spec := "boxTells", inPlace := ["internal/reflectlite.ValueOf", "(internal/reflectlite.Value).Type", "(internal/reflectlite.Value).IsNil", "internal/reflectlite.TypeOf", "(internal/reflectlite.Value).Elem", "(internal/reflectlite.Value).Set"], unfollowed := true, recurses := true, named := ["errors.errorType"], apart := false, laid := [("errors.errorType", laid_errors_errorType)], narrowed := true }
def BoxTellsUptoSaid : Prop := boxTellsUptoRow.holds Tryd.pinned (OpenSpec.upto boxTellsSpec)

/-- 'spantop.TopRoots', WHERE WHAT IT READS IS OF BULK AT MOST 1048576: true; the input reads as it did. -/
def topRootsUptoRow : OpenClaim := { program := "ytafhcppigpjcpaadoor", sum := "2bc87ad4b7dd15c076fb533c937f3f3d2a8bae9cc876e07748f0761b906aae51", func := "spanmeadow/spantop.TopRoots", spec := "topRoots", inPlace := ["internal/reflectlite.ValueOf", "(internal/reflectlite.Value).Type", "(internal/reflectlite.Value).IsNil", "internal/reflectlite.TypeOf", "(internal/reflectlite.Value).Elem", "(internal/reflectlite.Value).Set"], unfollowed := true, recurses := true, named := ["errors.errorType"], apart := false, laid := [("errors.errorType", laid_errors_errorType)], narrowed := true }
def TopRootsUptoSaid : Prop := topRootsUptoRow.holds Tryd.pinned (OpenSpec.upto topRootsSpec)

/-- 'spanlaw1.NewtonTells', WHERE WHAT IT READS IS OF BULK AT MOST 1048576: true; the input reads as it did. -/
def newtonTellsUptoRow : OpenClaim := { program := "ytafhcppigpjcpaadoor", sum := "2bc87ad4b7dd15c076fb533c937f3f3d2a8bae9cc876e07748f0761b906aae51", func := "spanmeadow/spanlaw1.NewtonTells", spec := "newtonTells", inPlace := ["internal/reflectlite.ValueOf", "(internal/reflectlite.Value).Type", "(internal/reflectlite.Value).IsNil", "internal/reflectlite.TypeOf", "(internal/reflectlite.Value).Elem", "(internal/reflectlite.Value).Set"], unfollowed := true, recurses := true, named := ["errors.errorType"], apart := false, laid := [("errors.errorType", laid_errors_errorType)], narrowed := true }
def NewtonTellsUptoSaid : Prop := newtonTellsUptoRow.holds Tryd.pinned (OpenSpec.upto newtonTellsSpec)

/-- 'spanlaw1.PolyTells', WHERE WHAT IT READS IS OF BULK AT MOST 1048576: true; the input reads as it did. -/
def polyTellsUptoRow : OpenClaim := { program := "ytafhcppigpjcpaadoor", sum := "2bc87ad4b7dd15c076fb533c937f3f3d2a8bae9cc876e07748f0761b906aae51", func := "spanmeadow/spanlaw1.PolyTells", spec := "polyTells", inPlace := ["internal/reflectlite.ValueOf", "(internal/reflectlite.Value).Type", "(internal/reflectlite.Value).IsNil", "internal/reflectlite.TypeOf", "(internal/reflectlite.Value).Elem", "(internal/reflectlite.Value).Set"], unfollowed := true, recurses := true, named := ["errors.errorType"], apart := false, laid := [("errors.errorType", laid_errors_errorType)], narrowed := true }
def PolyTellsUptoSaid : Prop := polyTellsUptoRow.holds Tryd.pinned (OpenSpec.upto polyTellsSpec)

/-- 'spanlaw2.FormTells', WHERE WHAT IT READS IS OF BULK AT MOST 1048576: true; the input reads as it did. -/
def formTellsUptoRow : OpenClaim := { program := "ytafhcppigpjcpaadoor", sum := "2bc87ad4b7dd15c076fb533c937f3f3d2a8bae9cc876e07748f0761b906aae51", func := "spanmeadow/spanlaw2.FormTells", spec := "formTells", inPlace := ["internal/reflectlite.ValueOf", "(internal/reflectlite.Value).Type", "(internal/reflectlite.Value).IsNil", "internal/reflectlite.TypeOf", "(internal/reflectlite.Value).Elem", "(internal/reflectlite.Value).Set"], unfollowed := true, recurses := true, named := ["errors.errorType"], apart := false, laid := [("errors.errorType", laid_errors_errorType)], narrowed := true }
def FormTellsUptoSaid : Prop := formTellsUptoRow.holds Tryd.pinned (OpenSpec.upto formTellsSpec)

/-- 'spanlaw1.CenterTells', WHERE WHAT IT READS IS OF BULK AT MOST 1048576: true; the input reads as it did. -/
def centerTellsUptoRow : OpenClaim := { program := "ytafhcppigpjcpaadoor", sum := "2bc87ad4b7dd15c076fb533c937f3f3d2a8bae9cc876e07748f0761b906aae51", func := "spanmeadow/spanlaw1.CenterTells", spec := "centerTells", inPlace := ["internal/reflectlite.ValueOf", "(internal/reflectlite.Value).Type", "(internal/reflectlite.Value).IsNil", "internal/reflectlite.TypeOf", "(internal/reflectlite.Value).Elem", "(internal/reflectlite.Value).Set"], unfollowed := true, recurses := true, named := ["errors.errorType"], apart := false, laid := [("errors.errorType", laid_errors_errorType)], narrowed := true }
def CenterTellsUptoSaid : Prop := centerTellsUptoRow.holds Tryd.pinned (OpenSpec.upto centerTellsSpec)

/-- 'spanlaw1.MonoTells', WHERE WHAT IT READS IS OF BULK AT MOST 1048576: true; the input reads as it did. -/
def monoTellsUptoRow : OpenClaim := { program := "ytafhcppigpjcpaadoor", sum := "2bc87ad4b7dd15c076fb533c937f3f3d2a8bae9cc876e07748f0761b906aae51", func := "spanmeadow/spanlaw1.MonoTells", spec := "monoTells", inPlace := ["internal/reflectlite.ValueOf", "(internal/reflectlite.Value).Type", "(internal/reflectlite.Value).IsNil", "internal/reflectlite.TypeOf", "(internal/reflectlite.Value).Elem", "(internal/reflectlite.Value).Set"], unfollowed := true, recurses := true, named := ["errors.errorType"], apart := false, laid := [("errors.errorType", laid_errors_errorType)], narrowed := true }
def MonoTellsUptoSaid : Prop := monoTellsUptoRow.holds Tryd.pinned (OpenSpec.upto monoTellsSpec)

/-- 'spanlaw1.SplitTells', WHERE WHAT IT READS IS OF BULK AT MOST 1048576: true; the input reads as it did. -/
def splitTellsUptoRow : OpenClaim := { program := "ytafhcppigpjcpaadoor", sum := "2bc87ad4b7dd15c076fb533c937f3f3d2a8bae9cc876e07748f0761b906aae51", func := "spanmeadow/spanlaw1.SplitTells", spec := "splitTells", inPlace := ["internal/reflectlite.ValueOf", "(internal/reflectlite.Value).Type", "(internal/reflectlite.Value).IsNil", "internal/reflectlite.TypeOf", "(internal/reflectlite.Value).Elem", "(internal/reflectlite.Value).Set"], unfollowed := true, recurses := true, named := ["errors.errorType"], apart := false, laid := [("errors.errorType", laid_errors_errorType)], narrowed := true }
def SplitTellsUptoSaid : Prop := splitTellsUptoRow.holds Tryd.pinned (OpenSpec.upto splitTellsSpec)

/-- 'spanlaw4.RootLine', WHERE WHAT IT READS IS OF BULK AT MOST 1048576: true; the input reads as it did. -/
def rootLineUptoRow : OpenClaim := { program := "ytafhcppigpjcpaadoor", sum := "2bc87ad4b7dd15c076fb533c937f3f3d2a8bae9cc876e07748f0761b906aae51", func := "spanmeadow/spanlaw4.RootLine", spec := "rootLine", inPlace := ["internal/reflectlite.ValueOf", "(internal/reflectlite.Value).Type", "(internal/reflectlite.Value).IsNil", "internal/reflectlite.TypeOf", "(internal/reflectlite.Value).Elem", "(internal/reflectlite.Value).Set"], unfollowed := true, recurses := true, named := ["errors.errorType"], apart := false, laid := [("errors.errorType", laid_errors_errorType)], narrowed := true }
def RootLineUptoSaid : Prop := rootLineUptoRow.holds Tryd.pinned (OpenSpec.upto rootLineSpec)

/-- 'spanlaw1.RootTells', WHERE WHAT IT READS IS OF BULK AT MOST 1048576: true; the input reads as it did. -/
def rootTellsUptoRow : OpenClaim := { program := "ytafhcppigpjcpaadoor", sum := "2bc87ad4b7dd15c076fb533c937f3f3d2a8bae9cc876e07748f0761b906aae51", func := "spanmeadow/spanlaw1.RootTells", spec := "rootTells", inPlace := ["internal/reflectlite.ValueOf", "(internal/reflectlite.Value).Type", "(internal/reflectlite.Value).IsNil", "internal/reflectlite.TypeOf", "(internal/reflectlite.Value).Elem", "(internal/reflectlite.Value).Set"], unfollowed := true, recurses := true, named := ["errors.errorType"], apart := false, laid := [("errors.errorType", laid_errors_errorType)], narrowed := true }
def RootTellsUptoSaid : Prop := rootTellsUptoRow.holds Tryd.pinned (OpenSpec.upto rootTellsSpec)

end Rows
end Go.Proofs.YtafhcppigpjcpaaDoor
