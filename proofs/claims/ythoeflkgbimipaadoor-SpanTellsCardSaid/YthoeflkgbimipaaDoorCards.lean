/-
  DERIVED. GIVEN WITH THE SEED: THE CARDS: each row of YthoeflkgbimipaaDoorRows.lean that lists a variable, with what it lists TIED to the program's text (the seventh form; the later family's looks); each row that meets fmt, with fmt's text TOLD by the authors' own Lean function (tested against real Go, not proved from fmt's source: count such statements apart). THE CARD IS WHAT COUNTS. Prove the row's statement (the work); the ties are given (YthoeflkgbimipaaDoorTie.lean); close each card by the builder's one call (the guide's Derived/Test/ToyasCard.lean, 'card_holds'). Laid BY PROGRAM, IN A SANDBOX (cutbox-door.mjs). By AI agents, Wed Nov 11 2026. No macro, syntax, notation, axiom, sorry.
-/
import Derived.Test.YthoeflkgbimipaaDoorRows
import GoSem.ClaimSeven
namespace Go.Proofs.YthoeflkgbimipaaDoor
namespace Rows

/-- THE TIED CARD OF 'spanlaw4.UnitOne'. -/
def unitOneCard : Claim7 := { stood := { row := unitOneRow, standIns := [], harness := (true, "4f0e6ec2999e8407fc3f8e47fa2bca43f09fb7e21995caceb48bce91139f8bbd"), looks := true }, kinds := [], alts := [], laidByText := true, laidKinds := [.handle], laidTests := true, laidLooks := .later }
def UnitOneCardSaid : Prop := Claim7.holds Tryd.pinned (.plain (OpenSpec.ofChange unitOneSpec)) unitOneCard

/-- THE TIED CARD OF 'spanlaw1.PowerTells'. -/
def powerTellsCard : Claim7 := { stood := { row := powerTellsRow, standIns := [], harness := (true, "4f0e6ec2999e8407fc3f8e47fa2bca43f09fb7e21995caceb48bce91139f8bbd"), looks := true }, kinds := [], alts := [], laidByText := true, laidKinds := [.handle], laidTests := true, laidLooks := .later }
def PowerTellsCardSaid : Prop := Claim7.holds Tryd.pinned (.plain (OpenSpec.ofChange powerTellsSpec)) powerTellsCard

/-- THE TIED CARD OF 'spanlaw1.SpanTells'. -/
def spanTellsCard : Claim7 := { stood := { row := spanTellsRow, standIns := [], harness := (true, "4f0e6ec2999e8407fc3f8e47fa2bca43f09fb7e21995caceb48bce91139f8bbd"), looks := true }, kinds := [], alts := [], laidByText := true, laidKinds := [.handle], laidTests := true, laidLooks := .later }
def SpanTellsCardSaid : Prop := Claim7.holds Tryd.pinned (.plain (OpenSpec.ofChange spanTellsSpec)) spanTellsCard

/-- THE TIED CARD OF 'spanlaw1.SpanHas'. -/
def spanHasCard : Claim7 := { stood := { row := spanHasRow, standIns := [], harness := (true, "4f0e6ec2999e8407fc3f8e47fa2bca43f09fb7e21995caceb48bce91139f8bbd"), looks := true }, kinds := [], alts := [], laidByText := true, laidKinds := [.handle], laidTests := true, laidLooks := .later }
def SpanHasCardSaid : Prop := Claim7.holds Tryd.pinned (.plain (OpenSpec.ofChange spanHasSpec)) spanHasCard

/-- THE TIED CARD OF 'spantop.TopNarrow'. -/
def topNarrowCard : Claim7 := { stood := { row := topNarrowRow, standIns := [], harness := (true, "4f0e6ec2999e8407fc3f8e47fa2bca43f09fb7e21995caceb48bce91139f8bbd"), looks := true }, kinds := [], alts := [], laidByText := true, laidKinds := [.handle], laidTests := true, laidLooks := .later }
def TopNarrowCardSaid : Prop := Claim7.holds Tryd.pinned (.plain (OpenSpec.ofChange topNarrowSpec)) topNarrowCard

/-- THE TIED CARD OF 'spanlaw2.NarrowTells'. -/
def narrowTellsCard : Claim7 := { stood := { row := narrowTellsRow, standIns := [], harness := (true, "4f0e6ec2999e8407fc3f8e47fa2bca43f09fb7e21995caceb48bce91139f8bbd"), looks := true }, kinds := [], alts := [], laidByText := true, laidKinds := [.handle], laidTests := true, laidLooks := .later }
def NarrowTellsCardSaid : Prop := Claim7.holds Tryd.pinned (.plain (OpenSpec.ofChange narrowTellsSpec)) narrowTellsCard

/-- THE TIED CARD OF 'spanlaw2.NarrowKeeps'. -/
def narrowKeepsCard : Claim7 := { stood := { row := narrowKeepsRow, standIns := [], harness := (true, "4f0e6ec2999e8407fc3f8e47fa2bca43f09fb7e21995caceb48bce91139f8bbd"), looks := true }, kinds := [], alts := [], laidByText := true, laidKinds := [.handle], laidTests := true, laidLooks := .later }
def NarrowKeepsCardSaid : Prop := Claim7.holds Tryd.pinned (.plain (OpenSpec.ofChange narrowKeepsSpec)) narrowKeepsCard

/-- THE TIED CARD OF 'spantop.TopRoots'. -/
def topRootsCard : Claim7 := { stood := { row := topRootsRow, standIns := [], harness := (true, "4f0e6ec2999e8407fc3f8e47fa2bca43f09fb7e21995caceb48bce91139f8bbd"), looks := true }, kinds := [], alts := [], laidByText := true, laidKinds := [.handle], laidTests := true, laidLooks := .later }
def TopRootsCardSaid : Prop := Claim7.holds Tryd.pinned (.plain (OpenSpec.ofChange topRootsSpec)) topRootsCard

/-- THE TIED CARD OF 'spanlaw1.NewtonKeeps'. -/
def newtonKeepsCard : Claim7 := { stood := { row := newtonKeepsRow, standIns := [], harness := (true, "4f0e6ec2999e8407fc3f8e47fa2bca43f09fb7e21995caceb48bce91139f8bbd"), looks := true }, kinds := [], alts := [], laidByText := true, laidKinds := [.handle], laidTests := true, laidLooks := .later }
def NewtonKeepsCardSaid : Prop := Claim7.holds Tryd.pinned (.plain (OpenSpec.ofChange newtonKeepsSpec)) newtonKeepsCard

/-- THE TIED CARD OF 'spanlaw4.FormNone'. -/
def formNoneCard : Claim7 := { stood := { row := formNoneRow, standIns := [], harness := (true, "4f0e6ec2999e8407fc3f8e47fa2bca43f09fb7e21995caceb48bce91139f8bbd"), looks := true }, kinds := [], alts := [], laidByText := true, laidKinds := [.handle], laidTests := true, laidLooks := .later }
def FormNoneCardSaid : Prop := Claim7.holds Tryd.pinned (.plain (OpenSpec.ofChange formNoneSpec)) formNoneCard

/-- THE SECOND FORM's CARD OF 'spanlaw4.UnitOne'. -/
def unitOneUptoCard : Claim7 := { stood := { row := unitOneUptoRow, standIns := [], harness := (true, "4f0e6ec2999e8407fc3f8e47fa2bca43f09fb7e21995caceb48bce91139f8bbd"), looks := true }, kinds := [], alts := [], laidByText := true, laidKinds := [.handle], laidTests := true, laidLooks := .later }
def UnitOneUptoCardSaid : Prop := Claim7.holds Tryd.pinned (.plain (OpenSpec.upto unitOneSpec)) unitOneUptoCard

/-- THE SECOND FORM's CARD OF 'spanlaw1.PowerTells'. -/
def powerTellsUptoCard : Claim7 := { stood := { row := powerTellsUptoRow, standIns := [], harness := (true, "4f0e6ec2999e8407fc3f8e47fa2bca43f09fb7e21995caceb48bce91139f8bbd"), looks := true }, kinds := [], alts := [], laidByText := true, laidKinds := [.handle], laidTests := true, laidLooks := .later }
def PowerTellsUptoCardSaid : Prop := Claim7.holds Tryd.pinned (.plain (OpenSpec.upto powerTellsSpec)) powerTellsUptoCard

/-- THE SECOND FORM's CARD OF 'spanlaw1.SpanTells'. -/
def spanTellsUptoCard : Claim7 := { stood := { row := spanTellsUptoRow, standIns := [], harness := (true, "4f0e6ec2999e8407fc3f8e47fa2bca43f09fb7e21995caceb48bce91139f8bbd"), looks := true }, kinds := [], alts := [], laidByText := true, laidKinds := [.handle], laidTests := true, laidLooks := .later }
def SpanTellsUptoCardSaid : Prop := Claim7.holds Tryd.pinned (.plain (OpenSpec.upto spanTellsSpec)) spanTellsUptoCard

/-- THE SECOND FORM's CARD OF 'spanlaw1.SpanHas'. -/
def spanHasUptoCard : Claim7 := { stood := { row := spanHasUptoRow, standIns := [], harness := (true, "4f0e6ec2999e8407fc3f8e47fa2bca43f09fb7e21995caceb48bce91139f8bbd"), looks := true }, kinds := [], alts := [], laidByText := true, laidKinds := [.handle], laidTests := true, laidLooks := .later }
def SpanHasUptoCardSaid : Prop := Claim7.holds Tryd.pinned (.plain (OpenSpec.upto spanHasSpec)) spanHasUptoCard

/-- THE SECOND FORM's CARD OF 'spantop.TopNarrow'. -/
def topNarrowUptoCard : Claim7 := { stood := { row := topNarrowUptoRow, standIns := [], harness := (true, "4f0e6ec2999e8407fc3f8e47fa2bca43f09fb7e21995caceb48bce91139f8bbd"), looks := true }, kinds := [], alts := [], laidByText := true, laidKinds := [.handle], laidTests := true, laidLooks := .later }
def TopNarrowUptoCardSaid : Prop := Claim7.holds Tryd.pinned (.plain (OpenSpec.upto topNarrowSpec)) topNarrowUptoCard

/-- THE SECOND FORM's CARD OF 'spanlaw2.NarrowTells'. -/
def narrowTellsUptoCard : Claim7 := { stood := { row := narrowTellsUptoRow, standIns := [], harness := (true, "4f0e6ec2999e8407fc3f8e47fa2bca43f09fb7e21995caceb48bce91139f8bbd"), looks := true }, kinds := [], alts := [], laidByText := true, laidKinds := [.handle], laidTests := true, laidLooks := .later }
def NarrowTellsUptoCardSaid : Prop := Claim7.holds Tryd.pinned (.plain (OpenSpec.upto narrowTellsSpec)) narrowTellsUptoCard

/-- THE SECOND FORM's CARD OF 'spanlaw2.NarrowKeeps'. -/
def narrowKeepsUptoCard : Claim7 := { stood := { row := narrowKeepsUptoRow, standIns := [], harness := (true, "4f0e6ec2999e8407fc3f8e47fa2bca43f09fb7e21995caceb48bce91139f8bbd"), looks := true }, kinds := [], alts := [], laidByText := true, laidKinds := [.handle], laidTests := true, laidLooks := .later }
def NarrowKeepsUptoCardSaid : Prop := Claim7.holds Tryd.pinned (.plain (OpenSpec.upto narrowKeepsSpec)) narrowKeepsUptoCard

/-- THE SECOND FORM's CARD OF 'spantop.TopRoots'. -/
def topRootsUptoCard : Claim7 := { stood := { row := topRootsUptoRow, standIns := [], harness := (true, "4f0e6ec2999e8407fc3f8e47fa2bca43f09fb7e21995caceb48bce91139f8bbd"), looks := true }, kinds := [], alts := [], laidByText := true, laidKinds := [.handle], laidTests := true, laidLooks := .later }
def TopRootsUptoCardSaid : Prop := Claim7.holds Tryd.pinned (.plain (OpenSpec.upto topRootsSpec)) topRootsUptoCard

/-- THE SECOND FORM's CARD OF 'spanlaw1.NewtonKeeps'. -/
def newtonKeepsUptoCard : Claim7 := { stood := { row := newtonKeepsUptoRow, standIns := [], harness := (true, "4f0e6ec2999e8407fc3f8e47fa2bca43f09fb7e21995caceb48bce91139f8bbd"), looks := true }, kinds := [], alts := [], laidByText := true, laidKinds := [.handle], laidTests := true, laidLooks := .later }
def NewtonKeepsUptoCardSaid : Prop := Claim7.holds Tryd.pinned (.plain (OpenSpec.upto newtonKeepsSpec)) newtonKeepsUptoCard

/-- THE SECOND FORM's CARD OF 'spanlaw4.FormNone'. -/
def formNoneUptoCard : Claim7 := { stood := { row := formNoneUptoRow, standIns := [], harness := (true, "4f0e6ec2999e8407fc3f8e47fa2bca43f09fb7e21995caceb48bce91139f8bbd"), looks := true }, kinds := [], alts := [], laidByText := true, laidKinds := [.handle], laidTests := true, laidLooks := .later }
def FormNoneUptoCardSaid : Prop := Claim7.holds Tryd.pinned (.plain (OpenSpec.upto formNoneSpec)) formNoneUptoCard
end Rows
end Go.Proofs.YthoeflkgbimipaaDoor
