/-
  DERIVED. GIVEN WITH THE SEED: THE CARDS: each row of YteoomjenekkomaaDoorRows.lean that lists a variable, with what it lists TIED to the program's text (the seventh form; the later family's looks); each row that meets fmt, with fmt's text TOLD by the authors' own Lean function (tested against real Go, not proved from fmt's source: count such statements apart). THE CARD IS WHAT COUNTS. Prove the row's statement (the work); the ties are given (YteoomjenekkomaaDoorTie.lean); close each card by the builder's one call (the guide's Derived/Test/ToyasCard.lean, 'card_holds'). Laid BY PROGRAM, IN A SANDBOX (cutbox-door.mjs). By AI agents, Wed Nov 11 2026. No macro, syntax, notation, axiom, sorry.
-/
import Derived.Test.YteoomjenekkomaaDoorRows
import GoSem.ClaimSeven
namespace Go.Proofs.YteoomjenekkomaaDoor
namespace Rows

/-- THE TIED CARD OF 'spanlaw2.CoverTells'. -/
def coverTellsCard : Claim7 := { stood := { row := coverTellsRow, standIns := [], harness := (true, "621a2e6e91883f872ece5b44a69764e3d61221f2966ad986d9e1d3ec8d089263"), looks := true }, kinds := [], alts := [], laidByText := true, laidKinds := [.handle], laidTests := true, laidLooks := .later }
def CoverTellsCardSaid : Prop := Claim7.holds Tryd.pinned (.plain (OpenSpec.ofChange coverTellsSpec)) coverTellsCard

/-- THE TIED CARD OF 'spanlaw2.StepTells'. -/
def stepTellsCard : Claim7 := { stood := { row := stepTellsRow, standIns := [], harness := (true, "621a2e6e91883f872ece5b44a69764e3d61221f2966ad986d9e1d3ec8d089263"), looks := true }, kinds := [], alts := [], laidByText := true, laidKinds := [.handle], laidTests := true, laidLooks := .later }
def StepTellsCardSaid : Prop := Claim7.holds Tryd.pinned (.plain (OpenSpec.ofChange stepTellsSpec)) stepTellsCard

/-- THE TIED CARD OF 'spanlaw2.HoldTells'. -/
def holdTellsCard : Claim7 := { stood := { row := holdTellsRow, standIns := [], harness := (true, "621a2e6e91883f872ece5b44a69764e3d61221f2966ad986d9e1d3ec8d089263"), looks := true }, kinds := [], alts := [], laidByText := true, laidKinds := [.handle], laidTests := true, laidLooks := .later }
def HoldTellsCardSaid : Prop := Claim7.holds Tryd.pinned (.plain (OpenSpec.ofChange holdTellsSpec)) holdTellsCard

/-- THE TIED CARD OF 'spanlaw2.SafeTells'. -/
def safeTellsCard : Claim7 := { stood := { row := safeTellsRow, standIns := [], harness := (true, "621a2e6e91883f872ece5b44a69764e3d61221f2966ad986d9e1d3ec8d089263"), looks := true }, kinds := [], alts := [], laidByText := true, laidKinds := [.handle], laidTests := true, laidLooks := .later }
def SafeTellsCardSaid : Prop := Claim7.holds Tryd.pinned (.plain (OpenSpec.ofChange safeTellsSpec)) safeTellsCard

/-- THE TIED CARD OF 'spanlaw2.NearTells'. -/
def nearTellsCard : Claim7 := { stood := { row := nearTellsRow, standIns := [], harness := (true, "621a2e6e91883f872ece5b44a69764e3d61221f2966ad986d9e1d3ec8d089263"), looks := true }, kinds := [], alts := [], laidByText := true, laidKinds := [.handle], laidTests := true, laidLooks := .later }
def NearTellsCardSaid : Prop := Claim7.holds Tryd.pinned (.plain (OpenSpec.ofChange nearTellsSpec)) nearTellsCard

/-- THE TIED CARD OF 'spanlaw4.LogMany'. -/
def logManyCard : Claim7 := { stood := { row := logManyRow, standIns := [], harness := (true, "621a2e6e91883f872ece5b44a69764e3d61221f2966ad986d9e1d3ec8d089263"), looks := true }, kinds := [], alts := [], laidByText := true, laidKinds := [.data, .data, .data, .handle], laidTests := true, laidLooks := .later }
def LogManyCardSaid : Prop := Claim7.holds Tryd.pinned (.plain (OpenSpec.ofChange logManySpec)) logManyCard

/-- THE TIED CARD OF 'spanlaw2.FlowTells'. -/
def flowTellsCard : Claim7 := { stood := { row := flowTellsRow, standIns := [], harness := (true, "621a2e6e91883f872ece5b44a69764e3d61221f2966ad986d9e1d3ec8d089263"), looks := true }, kinds := [], alts := [], laidByText := true, laidKinds := [.handle], laidTests := true, laidLooks := .later }
def FlowTellsCardSaid : Prop := Claim7.holds Tryd.pinned (.plain (OpenSpec.ofChange flowTellsSpec)) flowTellsCard

/-- THE TIED CARD OF 'spanlaw2.SafeNever'. -/
def safeNeverCard : Claim7 := { stood := { row := safeNeverRow, standIns := [], harness := (true, "621a2e6e91883f872ece5b44a69764e3d61221f2966ad986d9e1d3ec8d089263"), looks := true }, kinds := [], alts := [], laidByText := true, laidKinds := [.handle], laidTests := true, laidLooks := .later }
def SafeNeverCardSaid : Prop := Claim7.holds Tryd.pinned (.plain (OpenSpec.ofChange safeNeverSpec)) safeNeverCard

/-- THE TIED CARD OF 'spanlaw3.LogStops'. -/
def logStopsCard : Claim7 := { stood := { row := logStopsRow, standIns := [], harness := (true, "621a2e6e91883f872ece5b44a69764e3d61221f2966ad986d9e1d3ec8d089263"), looks := true }, kinds := [], alts := [], laidByText := true, laidKinds := [.data, .data, .data, .handle], laidTests := true, laidLooks := .later }
def LogStopsCardSaid : Prop := Claim7.holds Tryd.pinned (.plain (OpenSpec.ofChange logStopsSpec)) logStopsCard

/-- THE TIED CARD OF 'spanlaw3.LogKeeps'. -/
def logKeepsCard : Claim7 := { stood := { row := logKeepsRow, standIns := [], harness := (true, "621a2e6e91883f872ece5b44a69764e3d61221f2966ad986d9e1d3ec8d089263"), looks := true }, kinds := [], alts := [], laidByText := true, laidKinds := [.data, .data, .data, .handle], laidTests := true, laidLooks := .later }
def LogKeepsCardSaid : Prop := Claim7.holds Tryd.pinned (.plain (OpenSpec.ofChange logKeepsSpec)) logKeepsCard

/-- THE TIED CARD OF 'spanlaw1.UnitBetween'. -/
def unitBetweenCard : Claim7 := { stood := { row := unitBetweenRow, standIns := [], harness := (true, "621a2e6e91883f872ece5b44a69764e3d61221f2966ad986d9e1d3ec8d089263"), looks := true }, kinds := [], alts := [], laidByText := true, laidKinds := [.data, .data, .data, .sentinel, .sentinel], laidTests := true, laidLooks := .later }
def UnitBetweenCardSaid : Prop := Claim7.holds Tryd.pinned (.plain (OpenSpec.ofChange unitBetweenSpec)) unitBetweenCard

/-- THE SECOND FORM's CARD OF 'spanlaw2.CoverTells'. -/
def coverTellsUptoCard : Claim7 := { stood := { row := coverTellsUptoRow, standIns := [], harness := (true, "621a2e6e91883f872ece5b44a69764e3d61221f2966ad986d9e1d3ec8d089263"), looks := true }, kinds := [], alts := [], laidByText := true, laidKinds := [.handle], laidTests := true, laidLooks := .later }
def CoverTellsUptoCardSaid : Prop := Claim7.holds Tryd.pinned (.plain (OpenSpec.upto coverTellsSpec)) coverTellsUptoCard

/-- THE SECOND FORM's CARD OF 'spanlaw2.StepTells'. -/
def stepTellsUptoCard : Claim7 := { stood := { row := stepTellsUptoRow, standIns := [], harness := (true, "621a2e6e91883f872ece5b44a69764e3d61221f2966ad986d9e1d3ec8d089263"), looks := true }, kinds := [], alts := [], laidByText := true, laidKinds := [.handle], laidTests := true, laidLooks := .later }
def StepTellsUptoCardSaid : Prop := Claim7.holds Tryd.pinned (.plain (OpenSpec.upto stepTellsSpec)) stepTellsUptoCard

/-- THE SECOND FORM's CARD OF 'spanlaw2.HoldTells'. -/
def holdTellsUptoCard : Claim7 := { stood := { row := holdTellsUptoRow, standIns := [], harness := (true, "621a2e6e91883f872ece5b44a69764e3d61221f2966ad986d9e1d3ec8d089263"), looks := true }, kinds := [], alts := [], laidByText := true, laidKinds := [.handle], laidTests := true, laidLooks := .later }
def HoldTellsUptoCardSaid : Prop := Claim7.holds Tryd.pinned (.plain (OpenSpec.upto holdTellsSpec)) holdTellsUptoCard

/-- THE SECOND FORM's CARD OF 'spanlaw2.SafeTells'. -/
def safeTellsUptoCard : Claim7 := { stood := { row := safeTellsUptoRow, standIns := [], harness := (true, "621a2e6e91883f872ece5b44a69764e3d61221f2966ad986d9e1d3ec8d089263"), looks := true }, kinds := [], alts := [], laidByText := true, laidKinds := [.handle], laidTests := true, laidLooks := .later }
def SafeTellsUptoCardSaid : Prop := Claim7.holds Tryd.pinned (.plain (OpenSpec.upto safeTellsSpec)) safeTellsUptoCard

/-- THE SECOND FORM's CARD OF 'spanlaw2.NearTells'. -/
def nearTellsUptoCard : Claim7 := { stood := { row := nearTellsUptoRow, standIns := [], harness := (true, "621a2e6e91883f872ece5b44a69764e3d61221f2966ad986d9e1d3ec8d089263"), looks := true }, kinds := [], alts := [], laidByText := true, laidKinds := [.handle], laidTests := true, laidLooks := .later }
def NearTellsUptoCardSaid : Prop := Claim7.holds Tryd.pinned (.plain (OpenSpec.upto nearTellsSpec)) nearTellsUptoCard

/-- THE SECOND FORM's CARD OF 'spanlaw4.LogMany'. -/
def logManyUptoCard : Claim7 := { stood := { row := logManyUptoRow, standIns := [], harness := (true, "621a2e6e91883f872ece5b44a69764e3d61221f2966ad986d9e1d3ec8d089263"), looks := true }, kinds := [], alts := [], laidByText := true, laidKinds := [.data, .data, .data, .handle], laidTests := true, laidLooks := .later }
def LogManyUptoCardSaid : Prop := Claim7.holds Tryd.pinned (.plain (OpenSpec.upto logManySpec)) logManyUptoCard

/-- THE SECOND FORM's CARD OF 'spanlaw2.FlowTells'. -/
def flowTellsUptoCard : Claim7 := { stood := { row := flowTellsUptoRow, standIns := [], harness := (true, "621a2e6e91883f872ece5b44a69764e3d61221f2966ad986d9e1d3ec8d089263"), looks := true }, kinds := [], alts := [], laidByText := true, laidKinds := [.handle], laidTests := true, laidLooks := .later }
def FlowTellsUptoCardSaid : Prop := Claim7.holds Tryd.pinned (.plain (OpenSpec.upto flowTellsSpec)) flowTellsUptoCard

/-- THE SECOND FORM's CARD OF 'spanlaw2.SafeNever'. -/
def safeNeverUptoCard : Claim7 := { stood := { row := safeNeverUptoRow, standIns := [], harness := (true, "621a2e6e91883f872ece5b44a69764e3d61221f2966ad986d9e1d3ec8d089263"), looks := true }, kinds := [], alts := [], laidByText := true, laidKinds := [.handle], laidTests := true, laidLooks := .later }
def SafeNeverUptoCardSaid : Prop := Claim7.holds Tryd.pinned (.plain (OpenSpec.upto safeNeverSpec)) safeNeverUptoCard

/-- THE SECOND FORM's CARD OF 'spanlaw3.LogStops'. -/
def logStopsUptoCard : Claim7 := { stood := { row := logStopsUptoRow, standIns := [], harness := (true, "621a2e6e91883f872ece5b44a69764e3d61221f2966ad986d9e1d3ec8d089263"), looks := true }, kinds := [], alts := [], laidByText := true, laidKinds := [.data, .data, .data, .handle], laidTests := true, laidLooks := .later }
def LogStopsUptoCardSaid : Prop := Claim7.holds Tryd.pinned (.plain (OpenSpec.upto logStopsSpec)) logStopsUptoCard

/-- THE SECOND FORM's CARD OF 'spanlaw3.LogKeeps'. -/
def logKeepsUptoCard : Claim7 := { stood := { row := logKeepsUptoRow, standIns := [], harness := (true, "621a2e6e91883f872ece5b44a69764e3d61221f2966ad986d9e1d3ec8d089263"), looks := true }, kinds := [], alts := [], laidByText := true, laidKinds := [.data, .data, .data, .handle], laidTests := true, laidLooks := .later }
def LogKeepsUptoCardSaid : Prop := Claim7.holds Tryd.pinned (.plain (OpenSpec.upto logKeepsSpec)) logKeepsUptoCard

/-- THE SECOND FORM's CARD OF 'spanlaw1.UnitBetween'. -/
def unitBetweenUptoCard : Claim7 := { stood := { row := unitBetweenUptoRow, standIns := [], harness := (true, "621a2e6e91883f872ece5b44a69764e3d61221f2966ad986d9e1d3ec8d089263"), looks := true }, kinds := [], alts := [], laidByText := true, laidKinds := [.data, .data, .data, .sentinel, .sentinel], laidTests := true, laidLooks := .later }
def UnitBetweenUptoCardSaid : Prop := Claim7.holds Tryd.pinned (.plain (OpenSpec.upto unitBetweenSpec)) unitBetweenUptoCard
end Rows
end Go.Proofs.YteoomjenekkomaaDoor
