/-
  DERIVED. GIVEN WITH THE SEED: THE CARDS: each row of YtafhcppigpjcpaaDoorRows.lean that lists a variable, with what it lists TIED to the program's text (the seventh form; the later family's looks); each row that meets fmt, with fmt's text TOLD by the authors' own Lean function (tested against real Go, not proved from fmt's source: count such statements apart). THE CARD IS WHAT COUNTS. Prove the row's statement (the work); the ties are given (YtafhcppigpjcpaaDoorTie.lean); close each card by the builder's one call (the guide's Derived/Test/ToyasCard.lean, 'card_holds'). Laid BY PROGRAM, IN A SANDBOX (cutbox-door.mjs). By AI agents, Wed Nov 11 2026. No macro, syntax, notation, axiom, sorry.
-/
import Derived.Test.YtafhcppigpjcpaaDoorRows
import GoSem.ClaimSeven
namespace Go.Proofs.YtafhcppigpjcpaaDoor
namespace Rows

/-- THE TIED CARD OF 'spanlaw2.NarrowTells'. -/
def narrowTellsCard : Claim7 := { stood := { row := narrowTellsRow, standIns := [], harness := (true, "9fc5c01bcadd3517c8455d572b2af8d3af9503c8b0fcaaf774d8271f979d30e1"), looks := true }, kinds := [], alts := [], laidByText := true, laidKinds := [.handle], laidTests := true, laidLooks := .later }
def NarrowTellsCardSaid : Prop := Claim7.holds Tryd.pinned (.plain (OpenSpec.ofChange narrowTellsSpec)) narrowTellsCard

/-- THE TIED CARD OF 'spanlaw2.NarrowKeeps'. -/
def narrowKeepsCard : Claim7 := { stood := { row := narrowKeepsRow, standIns := [], harness := (true, "9fc5c01bcadd3517c8455d572b2af8d3af9503c8b0fcaaf774d8271f979d30e1"), looks := true }, kinds := [], alts := [], laidByText := true, laidKinds := [.handle], laidTests := true, laidLooks := .later }
def NarrowKeepsCardSaid : Prop := Claim7.holds Tryd.pinned (.plain (OpenSpec.ofChange narrowKeepsSpec)) narrowKeepsCard

/-- THE TIED CARD OF 'spanlaw1.BoxTells'. -/
def boxTellsCard : Claim7 := { stood := { row := boxTellsRow, standIns := [], harness := (true, "9fc5c01bcadd3517c8455d572b2af8d3af9503c8b0fcaaf774d8271f979d30e1"), looks := true }, kinds := [], alts := [], laidByText := true, laidKinds := [.handle], laidTests := true, laidLooks := .later }
def BoxTellsCardSaid : Prop := Claim7.holds Tryd.pinned (.plain (OpenSpec.ofChange boxTellsSpec)) boxTellsCard

/-- THE TIED CARD OF 'spantop.TopRoots'. -/
def topRootsCard : Claim7 := { stood := { row := topRootsRow, standIns := [], harness := (true, "9fc5c01bcadd3517c8455d572b2af8d3af9503c8b0fcaaf774d8271f979d30e1"), looks := true }, kinds := [], alts := [], laidByText := true, laidKinds := [.handle], laidTests := true, laidLooks := .later }
def TopRootsCardSaid : Prop := Claim7.holds Tryd.pinned (.plain (OpenSpec.ofChange topRootsSpec)) topRootsCard

/-- THE TIED CARD OF 'spanlaw1.NewtonTells'. -/
def newtonTellsCard : Claim7 := { stood := { row := newtonTellsRow, standIns := [], harness := (true, "9fc5c01bcadd3517c8455d572b2af8d3af9503c8b0fcaaf774d8271f979d30e1"), looks := true }, kinds := [], alts := [], laidByText := true, laidKinds := [.handle], laidTests := true, laidLooks := .later }
def NewtonTellsCardSaid : Prop := Claim7.holds Tryd.pinned (.plain (OpenSpec.ofChange newtonTellsSpec)) newtonTellsCard

/-- THE TIED CARD OF 'spanlaw1.PolyTells'. -/
def polyTellsCard : Claim7 := { stood := { row := polyTellsRow, standIns := [], harness := (true, "9fc5c01bcadd3517c8455d572b2af8d3af9503c8b0fcaaf774d8271f979d30e1"), looks := true }, kinds := [], alts := [], laidByText := true, laidKinds := [.handle], laidTests := true, laidLooks := .later }
def PolyTellsCardSaid : Prop := Claim7.holds Tryd.pinned (.plain (OpenSpec.ofChange polyTellsSpec)) polyTellsCard

/-- THE TIED CARD OF 'spanlaw2.FormTells'. -/
def formTellsCard : Claim7 := { stood := { row := formTellsRow, standIns := [], harness := (true, "9fc5c01bcadd3517c8455d572b2af8d3af9503c8b0fcaaf774d8271f979d30e1"), looks := true }, kinds := [], alts := [], laidByText := true, laidKinds := [.handle], laidTests := true, laidLooks := .later }
def FormTellsCardSaid : Prop := Claim7.holds Tryd.pinned (.plain (OpenSpec.ofChange formTellsSpec)) formTellsCard

/-- THE TIED CARD OF 'spanlaw1.CenterTells'. -/
def centerTellsCard : Claim7 := { stood := { row := centerTellsRow, standIns := [], harness := (true, "9fc5c01bcadd3517c8455d572b2af8d3af9503c8b0fcaaf774d8271f979d30e1"), looks := true }, kinds := [], alts := [], laidByText := true, laidKinds := [.handle], laidTests := true, laidLooks := .later }
def CenterTellsCardSaid : Prop := Claim7.holds Tryd.pinned (.plain (OpenSpec.ofChange centerTellsSpec)) centerTellsCard

/-- THE TIED CARD OF 'spanlaw1.MonoTells'. -/
def monoTellsCard : Claim7 := { stood := { row := monoTellsRow, standIns := [], harness := (true, "9fc5c01bcadd3517c8455d572b2af8d3af9503c8b0fcaaf774d8271f979d30e1"), looks := true }, kinds := [], alts := [], laidByText := true, laidKinds := [.handle], laidTests := true, laidLooks := .later }
def MonoTellsCardSaid : Prop := Claim7.holds Tryd.pinned (.plain (OpenSpec.ofChange monoTellsSpec)) monoTellsCard

/-- THE TIED CARD OF 'spanlaw1.SplitTells'. -/
def splitTellsCard : Claim7 := { stood := { row := splitTellsRow, standIns := [], harness := (true, "9fc5c01bcadd3517c8455d572b2af8d3af9503c8b0fcaaf774d8271f979d30e1"), looks := true }, kinds := [], alts := [], laidByText := true, laidKinds := [.handle], laidTests := true, laidLooks := .later }
def SplitTellsCardSaid : Prop := Claim7.holds Tryd.pinned (.plain (OpenSpec.ofChange splitTellsSpec)) splitTellsCard

/-- THE TIED CARD OF 'spanlaw4.RootLine'. -/
def rootLineCard : Claim7 := { stood := { row := rootLineRow, standIns := [], harness := (true, "9fc5c01bcadd3517c8455d572b2af8d3af9503c8b0fcaaf774d8271f979d30e1"), looks := true }, kinds := [], alts := [], laidByText := true, laidKinds := [.handle], laidTests := true, laidLooks := .later }
def RootLineCardSaid : Prop := Claim7.holds Tryd.pinned (.plain (OpenSpec.ofChange rootLineSpec)) rootLineCard

/-- THE TIED CARD OF 'spanlaw1.RootTells'. -/
def rootTellsCard : Claim7 := { stood := { row := rootTellsRow, standIns := [], harness := (true, "9fc5c01bcadd3517c8455d572b2af8d3af9503c8b0fcaaf774d8271f979d30e1"), looks := true }, kinds := [], alts := [], laidByText := true, laidKinds := [.handle], laidTests := true, laidLooks := .later }
def RootTellsCardSaid : Prop := Claim7.holds Tryd.pinned (.plain (OpenSpec.ofChange rootTellsSpec)) rootTellsCard

/-- THE SECOND FORM's CARD OF 'spanlaw2.NarrowTells'. -/
def narrowTellsUptoCard : Claim7 := { stood := { row := narrowTellsUptoRow, standIns := [], harness := (true, "9fc5c01bcadd3517c8455d572b2af8d3af9503c8b0fcaaf774d8271f979d30e1"), looks := true }, kinds := [], alts := [], laidByText := true, laidKinds := [.handle], laidTests := true, laidLooks := .later }
def NarrowTellsUptoCardSaid : Prop := Claim7.holds Tryd.pinned (.plain (OpenSpec.upto narrowTellsSpec)) narrowTellsUptoCard

/-- THE SECOND FORM's CARD OF 'spanlaw2.NarrowKeeps'. -/
def narrowKeepsUptoCard : Claim7 := { stood := { row := narrowKeepsUptoRow, standIns := [], harness := (true, "9fc5c01bcadd3517c8455d572b2af8d3af9503c8b0fcaaf774d8271f979d30e1"), looks := true }, kinds := [], alts := [], laidByText := true, laidKinds := [.handle], laidTests := true, laidLooks := .later }
def NarrowKeepsUptoCardSaid : Prop := Claim7.holds Tryd.pinned (.plain (OpenSpec.upto narrowKeepsSpec)) narrowKeepsUptoCard

/-- THE SECOND FORM's CARD OF 'spanlaw1.BoxTells'. -/
def boxTellsUptoCard : Claim7 := { stood := { row := boxTellsUptoRow, standIns := [], harness := (true, "9fc5c01bcadd3517c8455d572b2af8d3af9503c8b0fcaaf774d8271f979d30e1"), looks := true }, kinds := [], alts := [], laidByText := true, laidKinds := [.handle], laidTests := true, laidLooks := .later }
def BoxTellsUptoCardSaid : Prop := Claim7.holds Tryd.pinned (.plain (OpenSpec.upto boxTellsSpec)) boxTellsUptoCard

/-- THE SECOND FORM's CARD OF 'spantop.TopRoots'. -/
def topRootsUptoCard : Claim7 := { stood := { row := topRootsUptoRow, standIns := [], harness := (true, "9fc5c01bcadd3517c8455d572b2af8d3af9503c8b0fcaaf774d8271f979d30e1"), looks := true }, kinds := [], alts := [], laidByText := true, laidKinds := [.handle], laidTests := true, laidLooks := .later }
def TopRootsUptoCardSaid : Prop := Claim7.holds Tryd.pinned (.plain (OpenSpec.upto topRootsSpec)) topRootsUptoCard

/-- THE SECOND FORM's CARD OF 'spanlaw1.NewtonTells'. -/
def newtonTellsUptoCard : Claim7 := { stood := { row := newtonTellsUptoRow, standIns := [], harness := (true, "9fc5c01bcadd3517c8455d572b2af8d3af9503c8b0fcaaf774d8271f979d30e1"), looks := true }, kinds := [], alts := [], laidByText := true, laidKinds := [.handle], laidTests := true, laidLooks := .later }
def NewtonTellsUptoCardSaid : Prop := Claim7.holds Tryd.pinned (.plain (OpenSpec.upto newtonTellsSpec)) newtonTellsUptoCard

/-- THE SECOND FORM's CARD OF 'spanlaw1.PolyTells'. -/
def polyTellsUptoCard : Claim7 := { stood := { row := polyTellsUptoRow, standIns := [], harness := (true, "9fc5c01bcadd3517c8455d572b2af8d3af9503c8b0fcaaf774d8271f979d30e1"), looks := true }, kinds := [], alts := [], laidByText := true, laidKinds := [.handle], laidTests := true, laidLooks := .later }
def PolyTellsUptoCardSaid : Prop := Claim7.holds Tryd.pinned (.plain (OpenSpec.upto polyTellsSpec)) polyTellsUptoCard

/-- THE SECOND FORM's CARD OF 'spanlaw2.FormTells'. -/
def formTellsUptoCard : Claim7 := { stood := { row := formTellsUptoRow, standIns := [], harness := (true, "9fc5c01bcadd3517c8455d572b2af8d3af9503c8b0fcaaf774d8271f979d30e1"), looks := true }, kinds := [], alts := [], laidByText := true, laidKinds := [.handle], laidTests := true, laidLooks := .later }
def FormTellsUptoCardSaid : Prop := Claim7.holds Tryd.pinned (.plain (OpenSpec.upto formTellsSpec)) formTellsUptoCard

/-- THE SECOND FORM's CARD OF 'spanlaw1.CenterTells'. -/
def centerTellsUptoCard : Claim7 := { stood := { row := centerTellsUptoRow, standIns := [], harness := (true, "9fc5c01bcadd3517c8455d572b2af8d3af9503c8b0fcaaf774d8271f979d30e1"), looks := true }, kinds := [], alts := [], laidByText := true, laidKinds := [.handle], laidTests := true, laidLooks := .later }
def CenterTellsUptoCardSaid : Prop := Claim7.holds Tryd.pinned (.plain (OpenSpec.upto centerTellsSpec)) centerTellsUptoCard

/-- THE SECOND FORM's CARD OF 'spanlaw1.MonoTells'. -/
def monoTellsUptoCard : Claim7 := { stood := { row := monoTellsUptoRow, standIns := [], harness := (true, "9fc5c01bcadd3517c8455d572b2af8d3af9503c8b0fcaaf774d8271f979d30e1"), looks := true }, kinds := [], alts := [], laidByText := true, laidKinds := [.handle], laidTests := true, laidLooks := .later }
def MonoTellsUptoCardSaid : Prop := Claim7.holds Tryd.pinned (.plain (OpenSpec.upto monoTellsSpec)) monoTellsUptoCard

/-- THE SECOND FORM's CARD OF 'spanlaw1.SplitTells'. -/
def splitTellsUptoCard : Claim7 := { stood := { row := splitTellsUptoRow, standIns := [], harness := (true, "9fc5c01bcadd3517c8455d572b2af8d3af9503c8b0fcaaf774d8271f979d30e1"), looks := true }, kinds := [], alts := [], laidByText := true, laidKinds := [.handle], laidTests := true, laidLooks := .later }
def SplitTellsUptoCardSaid : Prop := Claim7.holds Tryd.pinned (.plain (OpenSpec.upto splitTellsSpec)) splitTellsUptoCard

/-- THE SECOND FORM's CARD OF 'spanlaw4.RootLine'. -/
def rootLineUptoCard : Claim7 := { stood := { row := rootLineUptoRow, standIns := [], harness := (true, "9fc5c01bcadd3517c8455d572b2af8d3af9503c8b0fcaaf774d8271f979d30e1"), looks := true }, kinds := [], alts := [], laidByText := true, laidKinds := [.handle], laidTests := true, laidLooks := .later }
def RootLineUptoCardSaid : Prop := Claim7.holds Tryd.pinned (.plain (OpenSpec.upto rootLineSpec)) rootLineUptoCard

/-- THE SECOND FORM's CARD OF 'spanlaw1.RootTells'. -/
def rootTellsUptoCard : Claim7 := { stood := { row := rootTellsUptoRow, standIns := [], harness := (true, "9fc5c01bcadd3517c8455d572b2af8d3af9503c8b0fcaaf774d8271f979d30e1"), looks := true }, kinds := [], alts := [], laidByText := true, laidKinds := [.handle], laidTests := true, laidLooks := .later }
def RootTellsUptoCardSaid : Prop := Claim7.holds Tryd.pinned (.plain (OpenSpec.upto rootTellsSpec)) rootTellsUptoCard
end Rows
end Go.Proofs.YtafhcppigpjcpaaDoor
