/-
  NARROWER THAN 'FOR EVERY INPUT', by the rows' own cells (each row's printed sentence says how): UnitOne: laid · PowerTells: laid · SpanTells: laid · SpanHas: laid · TopNarrow: laid · NarrowTells: laid · NarrowKeeps: laid · TopRoots: laid · NewtonKeeps: laid · FormNone: laid.
  DERIVED. THE GIVEN ROWS OF THIS SEAT. 10 by the template 'for every input the law returns true; each argument reads behind the call as it read before'; 0 by the template 'total and deterministic' (their statements: YthoeflkgbimipaaDoorTotals.lean).
  GIVEN WITH THE SEED: the statements are not yours to turn. If you find one false, say at which input.
  Laid BY PROGRAM, IN A SANDBOX (cutbox-rows.mjs): the forced cells as the released guide's own fill.sh prints them over the translation a7a21025f1a3ba7e… (all of the seat's roots in one cut). By AI agents, Wed Nov 11 2026. No macro, syntax, notation, axiom, sorry.
-/
import Derived.Test.YthoeflkgbimipaaDoorChecked
import GoSem.Claim
import GoSem.ClaimJoined
import GoSem.ClaimMapViews
import Derived.JoinedTies
import Derived.KernelRfl
namespace Go.Proofs.YthoeflkgbimipaaDoor
/- THE CELL 'sum', in the pinned program and in every row, IS THE sha256 OF THE DUMP (.gsa) THAT YthoeflkgbimipaaDoorProg.lean LOADS. Nothing in Lean hashes anything: it is a label: what it is worth is what the hold of that sum in a sandbox is worth. -/
noncomputable def Tryd.pinned : Pinned := { name := "ythoeflkgbimipaadoor", sum := "a7a21025f1a3ba7e95df772987400f49c45a43c39534fa9d76e2534bd19b535e", checked := Tryd.checked }
namespace Rows
def none {H : Type} : Left H := { results := [], args := [] }

/- WHAT THE LISTED PACKAGE-LEVEL VARIABLES READ AS WHEN THE CALL BEGINS. Each datum BY PROGRAM (the guide's laid-datum.mjs) off the statement by which the dump's own 'gosem.cut.vars' lays the variable. In a bare row this is a premise. The card (YthoeflkgbimipaaDoorCards.lean) ties it to the program's text. -/
def laid_errors_errorType {H : Type} : DataW H := .iface "internal/reflectlite.rtype" (.agg [.ptr (.lit (.string [101, 114, 114, 111, 114]))])

/-- 'spanlaw4.UnitOne': WHATEVER THE INPUT: true; the input reads as it did. -/
def unitOneSpec : ChangeSpec := { name := "unitOne", fn := fun _ => fun
  | [d] => { results := [.lit (.bool true)], args := [d] }
  | _ => none }
def unitOneRow : OpenClaim := { program := "ythoeflkgbimipaadoor", sum := "a7a21025f1a3ba7e95df772987400f49c45a43c39534fa9d76e2534bd19b535e", func := "spanmeadow/spanlaw4.UnitOne", spec := "unitOne", inPlace := ["internal/reflectlite.ValueOf", "(internal/reflectlite.Value).Type", "(internal/reflectlite.Value).IsNil", "internal/reflectlite.TypeOf", "(internal/reflectlite.Value).Elem", "(internal/reflectlite.Value).Set"], unfollowed := true, recurses := true, named := ["errors.errorType"], apart := false, laid := [("errors.errorType", laid_errors_errorType)] }
def UnitOneSaid : Prop := unitOneRow.holds Tryd.pinned (OpenSpec.ofChange unitOneSpec)

/-- ITS FALSE NEIGHBOUR: 'it returns false'. Refute it at one input. -/
def unitOneWrong : ChangeSpec := { name := "unitOne", fn := fun _ => fun
  | [d] => { results := [.lit (.bool false)], args := [d] }
  | _ => none }
def UnitOneWrongFalsely : Prop := unitOneRow.holds Tryd.pinned (OpenSpec.ofChange unitOneWrong)

/-- 'spanlaw1.PowerTells': WHATEVER THE INPUT: true; the input reads as it did. -/
def powerTellsSpec : ChangeSpec := { name := "powerTells", fn := fun _ => fun
  | [d1, d2] => { results := [.lit (.bool true)], args := [d1, d2] }
  | _ => none }
def powerTellsRow : OpenClaim := { program := "ythoeflkgbimipaadoor", sum := "a7a21025f1a3ba7e95df772987400f49c45a43c39534fa9d76e2534bd19b535e", func := "spanmeadow/spanlaw1.PowerTells", spec := "powerTells", inPlace := ["internal/reflectlite.ValueOf", "(internal/reflectlite.Value).Type", "(internal/reflectlite.Value).IsNil", "internal/reflectlite.TypeOf", "(internal/reflectlite.Value).Elem", "(internal/reflectlite.Value).Set"], unfollowed := true, recurses := true, named := ["errors.errorType"], apart := false, laid := [("errors.errorType", laid_errors_errorType)] }
def PowerTellsSaid : Prop := powerTellsRow.holds Tryd.pinned (OpenSpec.ofChange powerTellsSpec)

/-- ITS FALSE NEIGHBOUR: 'it returns false'. Refute it at one input. -/
def powerTellsWrong : ChangeSpec := { name := "powerTells", fn := fun _ => fun
  | [d1, d2] => { results := [.lit (.bool false)], args := [d1, d2] }
  | _ => none }
def PowerTellsWrongFalsely : Prop := powerTellsRow.holds Tryd.pinned (OpenSpec.ofChange powerTellsWrong)

/-- 'spanlaw1.SpanTells': WHATEVER THE INPUT: true; the input reads as it did. -/
def spanTellsSpec : ChangeSpec := { name := "spanTells", fn := fun _ => fun
  | [d1, d2] => { results := [.lit (.bool true)], args := [d1, d2] }
  | _ => none }
def spanTellsRow : OpenClaim := { program := "ythoeflkgbimipaadoor", sum := "a7a21025f1a3ba7e95df772987400f49c45a43c39534fa9d76e2534bd19b535e", func := "spanmeadow/spanlaw1.SpanTells", spec := "spanTells", inPlace := ["internal/reflectlite.ValueOf", "(internal/reflectlite.Value).Type", "(internal/reflectlite.Value).IsNil", "internal/reflectlite.TypeOf", "(internal/reflectlite.Value).Elem", "(internal/reflectlite.Value).Set"], unfollowed := true, recurses := true, named := ["errors.errorType"], apart := false, laid := [("errors.errorType", laid_errors_errorType)] }
def SpanTellsSaid : Prop := spanTellsRow.holds Tryd.pinned (OpenSpec.ofChange spanTellsSpec)

/-- ITS FALSE NEIGHBOUR: 'it returns false'. Refute it at one input. -/
def spanTellsWrong : ChangeSpec := { name := "spanTells", fn := fun _ => fun
  | [d1, d2] => { results := [.lit (.bool false)], args := [d1, d2] }
  | _ => none }
def SpanTellsWrongFalsely : Prop := spanTellsRow.holds Tryd.pinned (OpenSpec.ofChange spanTellsWrong)

/-- 'spanlaw1.SpanHas': WHATEVER THE INPUT: true; the input reads as it did. -/
def spanHasSpec : ChangeSpec := { name := "spanHas", fn := fun _ => fun
  | [d1, d2, d3, d4] => { results := [.lit (.bool true)], args := [d1, d2, d3, d4] }
  | _ => none }
def spanHasRow : OpenClaim := { program := "ythoeflkgbimipaadoor", sum := "a7a21025f1a3ba7e95df772987400f49c45a43c39534fa9d76e2534bd19b535e", func := "spanmeadow/spanlaw1.SpanHas", spec := "spanHas", inPlace := ["internal/reflectlite.ValueOf", "(internal/reflectlite.Value).Type", "(internal/reflectlite.Value).IsNil", "internal/reflectlite.TypeOf", "(internal/reflectlite.Value).Elem", "(internal/reflectlite.Value).Set"], unfollowed := true, recurses := true, named := ["errors.errorType"], apart := false, laid := [("errors.errorType", laid_errors_errorType)] }
def SpanHasSaid : Prop := spanHasRow.holds Tryd.pinned (OpenSpec.ofChange spanHasSpec)

/-- ITS FALSE NEIGHBOUR: 'it returns false'. Refute it at one input. -/
def spanHasWrong : ChangeSpec := { name := "spanHas", fn := fun _ => fun
  | [d1, d2, d3, d4] => { results := [.lit (.bool false)], args := [d1, d2, d3, d4] }
  | _ => none }
def SpanHasWrongFalsely : Prop := spanHasRow.holds Tryd.pinned (OpenSpec.ofChange spanHasWrong)

/-- 'spantop.TopNarrow': WHATEVER THE INPUT: true; the input reads as it did. -/
def topNarrowSpec : ChangeSpec := { name := "topNarrow", fn := fun _ => fun
  | [d1, d2, d3, d4, d5] => { results := [.lit (.bool true)], args := [d1, d2, d3, d4, d5] }
  | _ => none }
def topNarrowRow : OpenClaim := { program := "ythoeflkgbimipaadoor", sum := "a7a21025f1a3ba7e95df772987400f49c45a43c39534fa9d76e2534bd19b535e", func := "spanmeadow/spantop.TopNarrow", spec := "topNarrow", inPlace := ["internal/reflectlite.ValueOf", "(internal/reflectlite.Value).Type", "(internal/reflectlite.Value).IsNil", "internal/reflectlite.TypeOf", "(internal/reflectlite.Value).Elem", "(internal/reflectlite.Value).Set"], unfollowed := true, recurses := true, named := ["errors.errorType"], apart := false, laid := [("errors.errorType", laid_errors_errorType)] }
def TopNarrowSaid : Prop := topNarrowRow.holds Tryd.pinned (OpenSpec.ofChange topNarrowSpec)

/-- ITS FALSE NEIGHBOUR: 'it returns false'. Refute it at one input. -/
def topNarrowWrong : ChangeSpec := { name := "topNarrow", fn := fun _ => fun
  | [d1, d2, d3, d4, d5] => { results := [.lit (.bool false)], args := [d1, d2, d3, d4, d5] }
  | _ => none }
def TopNarrowWrongFalsely : Prop := topNarrowRow.holds Tryd.pinned (OpenSpec.ofChange topNarrowWrong)

/-- 'spanlaw2.NarrowTells': WHATEVER THE INPUT: true; the input reads as it did. -/
def narrowTellsSpec : ChangeSpec := { name := "narrowTells", fn := fun _ => fun
  | [d1, d2, d3] => { results := [.lit (.bool true)], args := [d1, d2, d3] }
  | _ => none }
def narrowTellsRow : OpenClaim := { program := "ythoeflkgbimipaadoor", sum := "a7a21025f1a3ba7e95df772987400f49c45a43c39534fa9d76e2534bd19b535e", func := "spanmeadow/spanlaw2.NarrowTells", spec := "narrowTells", inPlace := ["internal/reflectlite.ValueOf", "(internal/reflectlite.Value).Type", "(internal/reflectlite.Value).IsNil", "internal/reflectlite.TypeOf", "(internal/reflectlite.Value).Elem", "(internal/reflectlite.Value).Set"], unfollowed := true, recurses := true, named := ["errors.errorType"], apart := false, laid := [("errors.errorType", laid_errors_errorType)] }
def NarrowTellsSaid : Prop := narrowTellsRow.holds Tryd.pinned (OpenSpec.ofChange narrowTellsSpec)

/-- ITS FALSE NEIGHBOUR: 'it returns false'. Refute it at one input. -/
def narrowTellsWrong : ChangeSpec := { name := "narrowTells", fn := fun _ => fun
  | [d1, d2, d3] => { results := [.lit (.bool false)], args := [d1, d2, d3] }
  | _ => none }
def NarrowTellsWrongFalsely : Prop := narrowTellsRow.holds Tryd.pinned (OpenSpec.ofChange narrowTellsWrong)

/-- 'spanlaw2.NarrowKeeps': WHATEVER THE INPUT: true; the input reads as it did. -/
def narrowKeepsSpec : ChangeSpec := { name := "narrowKeeps", fn := fun _ => fun
  | [d1, d2, d3, d4, d5] => { results := [.lit (.bool true)], args := [d1, d2, d3, d4, d5] }
  | _ => none }
def narrowKeepsRow : OpenClaim := { program := "ythoeflkgbimipaadoor", sum := "a7a21025f1a3ba7e95df772987400f49c45a43c39534fa9d76e2534bd19b535e", func := "spanmeadow/spanlaw2.NarrowKeeps", spec := "narrowKeeps", inPlace := ["internal/reflectlite.ValueOf", "(internal/reflectlite.Value).Type", "(internal/reflectlite.Value).IsNil", "internal/reflectlite.TypeOf", "(internal/reflectlite.Value).Elem", "(internal/reflectlite.Value).Set"], unfollowed := true, recurses := true, named := ["errors.errorType"], apart := false, laid := [("errors.errorType", laid_errors_errorType)] }
def NarrowKeepsSaid : Prop := narrowKeepsRow.holds Tryd.pinned (OpenSpec.ofChange narrowKeepsSpec)

/-- ITS FALSE NEIGHBOUR: 'it returns false'. Refute it at one input. -/
def narrowKeepsWrong : ChangeSpec := { name := "narrowKeeps", fn := fun _ => fun
  | [d1, d2, d3, d4, d5] => { results := [.lit (.bool false)], args := [d1, d2, d3, d4, d5] }
  | _ => none }
def NarrowKeepsWrongFalsely : Prop := narrowKeepsRow.holds Tryd.pinned (OpenSpec.ofChange narrowKeepsWrong)

/-- 'spantop.TopRoots': WHATEVER THE INPUT: true; the input reads as it did. -/
def topRootsSpec : ChangeSpec := { name := "topRoots", fn := fun _ => fun
  | [d1, d2, d3, d4, d5] => { results := [.lit (.bool true)], args := [d1, d2, d3, d4, d5] }
  | _ => none }
def topRootsRow : OpenClaim := { program := "ythoeflkgbimipaadoor", sum := "a7a21025f1a3ba7e95df772987400f49c45a43c39534fa9d76e2534bd19b535e", func := "spanmeadow/spantop.TopRoots", spec := "topRoots", inPlace := ["internal/reflectlite.ValueOf", "(internal/reflectlite.Value).Type", "(internal/reflectlite.Value).IsNil", "internal/reflectlite.TypeOf", "(internal/reflectlite.Value).Elem", "(internal/reflectlite.Value).Set"], unfollowed := true, recurses := true, named := ["errors.errorType"], apart := false, laid := [("errors.errorType", laid_errors_errorType)] }
def TopRootsSaid : Prop := topRootsRow.holds Tryd.pinned (OpenSpec.ofChange topRootsSpec)

/-- ITS FALSE NEIGHBOUR: 'it returns false'. Refute it at one input. -/
def topRootsWrong : ChangeSpec := { name := "topRoots", fn := fun _ => fun
  | [d1, d2, d3, d4, d5] => { results := [.lit (.bool false)], args := [d1, d2, d3, d4, d5] }
  | _ => none }
def TopRootsWrongFalsely : Prop := topRootsRow.holds Tryd.pinned (OpenSpec.ofChange topRootsWrong)

/-- 'spanlaw1.NewtonKeeps': WHATEVER THE INPUT: true; the input reads as it did. -/
def newtonKeepsSpec : ChangeSpec := { name := "newtonKeeps", fn := fun _ => fun
  | [d1, d2, d3, d4] => { results := [.lit (.bool true)], args := [d1, d2, d3, d4] }
  | _ => none }
def newtonKeepsRow : OpenClaim := { program := "ythoeflkgbimipaadoor", sum := "a7a21025f1a3ba7e95df772987400f49c45a43c39534fa9d76e2534bd19b535e", func := "spanmeadow/spanlaw1.NewtonKeeps", spec := "newtonKeeps", inPlace := ["internal/reflectlite.ValueOf", "(internal/reflectlite.Value).Type", "(internal/reflectlite.Value).IsNil", "internal/reflectlite.TypeOf", "(internal/reflectlite.Value).Elem", "(internal/reflectlite.Value).Set"], unfollowed := true, recurses := true, named := ["errors.errorType"], apart := false, laid := [("errors.errorType", laid_errors_errorType)] }
def NewtonKeepsSaid : Prop := newtonKeepsRow.holds Tryd.pinned (OpenSpec.ofChange newtonKeepsSpec)

/-- ITS FALSE NEIGHBOUR: 'it returns false'. Refute it at one input. -/
def newtonKeepsWrong : ChangeSpec := { name := "newtonKeeps", fn := fun _ => fun
  | [d1, d2, d3, d4] => { results := [.lit (.bool false)], args := [d1, d2, d3, d4] }
  | _ => none }
def NewtonKeepsWrongFalsely : Prop := newtonKeepsRow.holds Tryd.pinned (OpenSpec.ofChange newtonKeepsWrong)

/-- 'spanlaw4.FormNone': WHATEVER THE INPUT: true; the input reads as it did. -/
def formNoneSpec : ChangeSpec := { name := "formNone", fn := fun _ => fun
  | [d1, d2] => { results := [.lit (.bool true)], args := [d1, d2] }
  | _ => none }
def formNoneRow : OpenClaim := { program := "ythoeflkgbimipaadoor", sum := "a7a21025f1a3ba7e95df772987400f49c45a43c39534fa9d76e2534bd19b535e", func := "spanmeadow/spanlaw4.FormNone", spec := "formNone", inPlace := ["internal/reflectlite.ValueOf", "(internal/reflectlite.Value).Type", "(internal/reflectlite.Value).IsNil", "internal/reflectlite.TypeOf", "(internal/reflectlite.Value).Elem", "(internal/reflectlite.Value).Set"], unfollowed := true, recurses := true, named := ["errors.errorType"], apart := false, laid := [("errors.errorType", laid_errors_errorType)] }
def FormNoneSaid : Prop := formNoneRow.holds Tryd.pinned (OpenSpec.ofChange formNoneSpec)

/-- ITS FALSE NEIGHBOUR: 'it returns false'. Refute it at one input. -/
def formNoneWrong : ChangeSpec := { name := "formNone", fn := fun _ => fun
  | [d1, d2] => { results := [.lit (.bool false)], args := [d1, d2] }
  | _ => none }
def FormNoneWrongFalsely : Prop := formNoneRow.holds Tryd.pinned (OpenSpec.ofChange formNoneWrong)

/- THE SECOND FORM. 'bulk': how many values and letters a reading holds, each counted each time it is reached (what is shared counts as often as it is met; a slice's spare places count too). A statement '..UptoSaid' is the law's where the arguments, and the package variables that the reading takes, are together of bulk at most 1048576: NARROWER than '..Said'. Prove '..Said' where nothing that the law and all that it calls make is longer than what came in: it says more and counts as full. Else prove '..UptoSaid'. A law counts once. -/
mutual
def uptoBulk {H : Type} : DataW H → Nat
  | .lit (.string bytes) => bytes.length + 1
  | .lit _ => 1
  | .nil => 1
  | .ptr d => uptoBulk d + 1
  | .slice elems spare => uptoBulkAll elems + uptoBulkAll spare + 1
  | .agg parts => uptoBulkAll parts + 1
  | .iface _ d => uptoBulk d + 1
  | .map entries => uptoBulkEntries entries + 1
  | .held _ => 1
def uptoBulkAll {H : Type} : List (DataW H) → Nat
  | [] => 0
  | d :: r => uptoBulk d + uptoBulkAll r
def uptoBulkEntries {H : Type} : List (Lit × DataW H) → Nat
  | [] => 0
  | x :: r => uptoBulkEntry x + uptoBulkEntries r
def uptoBulkEntry {H : Type} : Lit × DataW H → Nat
  | (.string bytes, d) => bytes.length + uptoBulk d + 1
  | (_, d) => uptoBulk d + 1
 end
def uptoSmall : (H : Type) → List (DataW H) → Bool := fun _ ds => decide (uptoBulkAll ds ≤ 1048576)
def OpenSpec.upto (s : _root_.Go.ChangeSpec) : _root_.Go.OpenSpec := { _root_.Go.OpenSpec.ofChange s with cond := some uptoSmall }

/-- 'spanlaw4.UnitOne', WHERE WHAT IT READS IS OF BULK AT MOST 1048576: true; the input reads as it did. -/
def unitOneUptoRow : OpenClaim := { program := "ythoeflkgbimipaadoor", sum := "a7a21025f1a3ba7e95df772987400f49c45a43c39534fa9d76e2534bd19b535e", func := "spanmeadow/spanlaw4.UnitOne", spec := "unitOne", inPlace := ["internal/reflectlite.ValueOf", "(internal/reflectlite.Value).Type", "(internal/reflectlite.Value).IsNil", "internal/reflectlite.TypeOf", "(internal/reflectlite.Value).Elem", "(internal/reflectlite.Value).Set"], unfollowed := true, recurses := true, named := ["errors.errorType"], apart := false, laid := [("errors.errorType", laid_errors_errorType)], narrowed := true }
def UnitOneUptoSaid : Prop := unitOneUptoRow.holds Tryd.pinned (OpenSpec.upto unitOneSpec)

/-- 'spanlaw1.PowerTells', WHERE WHAT IT READS IS OF BULK AT MOST 1048576: true; the input reads as it did. -/
def powerTellsUptoRow : OpenClaim := { program := "ythoeflkgbimipaadoor", sum := "a7a21025f1a3ba7e95df772987400f49c45a43c39534fa9d76e2534bd19b535e", func := "spanmeadow/spanlaw1.PowerTells", spec := "powerTells", inPlace := ["internal/reflectlite.ValueOf", "(internal/reflectlite.Value).Type", "(internal/reflectlite.Value).IsNil", "internal/reflectlite.TypeOf", "(internal/reflectlite.Value).Elem", "(internal/reflectlite.Value).Set"], unfollowed := true, recurses := true, named := ["errors.errorType"], apart := false, laid := [("errors.errorType", laid_errors_errorType)], narrowed := true }
def PowerTellsUptoSaid : Prop := powerTellsUptoRow.holds Tryd.pinned (OpenSpec.upto powerTellsSpec)

/-- 'spanlaw1.SpanTells', WHERE WHAT IT READS IS OF BULK AT MOST 1048576: true; the input reads as it did. -/
def spanTellsUptoRow : OpenClaim := { program := "ythoeflkgbimipaadoor", sum := "a7a21025f1a3ba7e95df772987400f49c45a43c39534fa9d76e2534bd19b535e", func := "spanmeadow/spanlaw1.SpanTells", spec := "spanTells", inPlace := ["internal/reflectlite.ValueOf", "(internal/reflectlite.Value).Type", "(internal/reflectlite.Value).IsNil", "internal/reflectlite.TypeOf", "(internal/reflectlite.Value).Elem", "(internal/reflectlite.Value).Set"], unfollowed := true, recurses := true, named := ["errors.errorType"], apart := false, laid := [("errors.errorType", laid_errors_errorType)], narrowed := true }
def SpanTellsUptoSaid : Prop := spanTellsUptoRow.holds Tryd.pinned (OpenSpec.upto spanTellsSpec)

/-- 'spanlaw1.SpanHas', WHERE WHAT IT READS IS OF BULK AT MOST 1048576: true; the input reads as it did. -/
def spanHasUptoRow : OpenClaim := { program := "ythoeflkgbimipaadoor", sum := "a7a21025f1a3ba7e95df772987400f49c45a43c39534fa9d76e2534bd19b535e", func := "spanmeadow/spanlaw1.SpanHas", spec := "spanHas", inPlace := ["internal/reflectlite.ValueOf", "(internal/reflectlite.Value).Type", "(internal/reflectlite.Value).IsNil", "internal/reflectlite.TypeOf", "(internal/reflectlite.Value).Elem", "(internal/reflectlite.Value).Set"], unfollowed := true, recurses := true, named := ["errors.errorType"], apart := false, laid := [("errors.errorType", laid_errors_errorType)], narrowed := true }
def SpanHasUptoSaid : Prop := spanHasUptoRow.holds Tryd.pinned (OpenSpec.upto spanHasSpec)

/-- 'spantop.TopNarrow', WHERE WHAT IT READS IS OF BULK AT MOST 1048576: true; the input reads as it did. -/
def topNarrowUptoRow : OpenClaim := { program := "ythoeflkgbimipaadoor", sum := "a7a21025f1a3ba7e95df772987400f49c45a43c39534fa9d76e2534bd19b535e", func := "spanmeadow/spantop.TopNarrow", spec := "topNarrow", inPlace := ["internal/reflectlite.ValueOf", "(internal/reflectlite.Value).Type", "(internal/reflectlite.Value).IsNil", "internal/reflectlite.TypeOf", "(internal/reflectlite.Value).Elem", "(internal/reflectlite.Value).Set"], unfollowed := true, recurses := true, named := ["errors.errorType"], apart := false, laid := [("errors.errorType", laid_errors_errorType)], narrowed := true }
def TopNarrowUptoSaid : Prop := topNarrowUptoRow.holds Tryd.pinned (OpenSpec.upto topNarrowSpec)

/-- 'spanlaw2.NarrowTells', WHERE WHAT IT READS IS OF BULK AT MOST 1048576: true; the input reads as it did. -/
def narrowTellsUptoRow : OpenClaim := { program := "ythoeflkgbimipaadoor", sum := "a7a21025f1a3ba7e95df772987400f49c45a43c39534fa9d76e2534bd19b535e", func := "spanmeadow/spanlaw2.NarrowTells", spec := "narrowTells", inPlace := ["internal/reflectlite.ValueOf", "(internal/reflectlite.Value).Type", "(internal/reflectlite.Value).IsNil", "internal/reflectlite.TypeOf", "(internal/reflectlite.Value).Elem", "(internal/reflectlite.Value).Set"], unfollowed := true, recurses := true, named := ["errors.errorType"], apart := false, laid := [("errors.errorType", laid_errors_errorType)], narrowed := true }
def NarrowTellsUptoSaid : Prop := narrowTellsUptoRow.holds Tryd.pinned (OpenSpec.upto narrowTellsSpec)

/-- 'spanlaw2.NarrowKeeps', WHERE WHAT IT READS IS OF BULK AT MOST 1048576: true; the input reads as it did. -/
def narrowKeepsUptoRow : OpenClaim := { program := "ythoeflkgbimipaadoor", sum := "a7a21025f1a3ba7e95df772987400f49c45a43c39534fa9d76e2534bd19b535e", func := "spanmeadow/spanlaw2.NarrowKeeps", spec := "narrowKeeps", inPlace := ["internal/reflectlite.ValueOf", "(internal/reflectlite.Value).Type", "(internal/reflectlite.Value).IsNil", "internal/reflectlite.TypeOf", "(internal/reflectlite.Value).Elem", "(internal/reflectlite.Value).Set"], unfollowed := true, recurses := true, named := ["errors.errorType"], apart := false, laid := [("errors.errorType", laid_errors_errorType)], narrowed := true }
def NarrowKeepsUptoSaid : Prop := narrowKeepsUptoRow.holds Tryd.pinned (OpenSpec.upto narrowKeepsSpec)

/-- 'spantop.TopRoots', WHERE WHAT IT READS IS OF BULK AT MOST 1048576: true; the input reads as it did. -/
def topRootsUptoRow : OpenClaim := { program := "ythoeflkgbimipaadoor", sum := "a7a21025f1a3ba7e95df772987400f49c45a43c39534fa9d76e2534bd19b535e", func := "spanmeadow/spantop.TopRoots", spec := "topRoots", inPlace := ["internal/reflectlite.ValueOf", "(internal/reflectlite.Value).Type", "(internal/reflectlite.Value).IsNil", "internal/reflectlite.TypeOf", "(internal/reflectlite.Value).Elem", "(internal/reflectlite.Value).Set"], unfollowed := true, recurses := true, named := ["errors.errorType"], apart := false, laid := [("errors.errorType", laid_errors_errorType)], narrowed := true }
def TopRootsUptoSaid : Prop := topRootsUptoRow.holds Tryd.pinned (OpenSpec.upto topRootsSpec)

/-- 'spanlaw1.NewtonKeeps', WHERE WHAT IT READS IS OF BULK AT MOST 1048576: true; the input reads as it did. -/
def newtonKeepsUptoRow : OpenClaim := { program := "ythoeflkgbimipaadoor", sum := "a7a21025f1a3ba7e95df772987400f49c45a43c39534fa9d76e2534bd19b535e", func := "spanmeadow/spanlaw1.NewtonKeeps", spec := "newtonKeeps", inPlace := ["internal/reflectlite.ValueOf", "(internal/reflectlite.Value).Type", "(internal/reflectlite.Value).IsNil", "internal/reflectlite.TypeOf", "(internal/reflectlite.Value).Elem", "(internal/reflectlite.Value).Set"], unfollowed := true, recurses := true, named := ["errors.errorType"], apart := false, laid := [("errors.errorType", laid_errors_errorType)], narrowed := true }
def NewtonKeepsUptoSaid : Prop := newtonKeepsUptoRow.holds Tryd.pinned (OpenSpec.upto newtonKeepsSpec)

/-- 'spanlaw4.FormNone', WHERE WHAT IT READS IS OF BULK AT MOST 1048576: true; the input reads as it did. -/
def formNoneUptoRow : OpenClaim := { program := "ythoeflkgbimipaadoor", sum := "a7a21025f1a3ba7e95df772987400f49c45a43c39534fa9d76e2534bd19b535e", func := "spanmeadow/spanlaw4.FormNone", spec := "formNone", inPlace := ["internal/reflectlite.ValueOf", "(internal/reflectlite.Value).Type", "(internal/reflectlite.Value).IsNil", "internal/reflectlite.TypeOf", "(internal/reflectlite.Value).Elem", "(internal/reflectlite.Value).Set"], unfollowed := true, recurses := true, named := ["errors.errorType"], apart := false, laid := [("errors.errorType", laid_errors_errorType)], narrowed := true }
def FormNoneUptoSaid : Prop := formNoneUptoRow.holds Tryd.pinned (OpenSpec.upto formNoneSpec)

end Rows
end Go.Proofs.YthoeflkgbimipaaDoor
