/-
  DERIVED. GIVEN WITH THE SEED: THE CARDS: each row of YtopgjbjpmnlldaaDoorRows.lean that lists a variable, with what it lists TIED to the program's text (the seventh form; the later family's looks); each row that meets fmt, with fmt's text TOLD by the authors' own Lean function (tested against real Go, not proved from fmt's source: count such statements apart). THE CARD IS WHAT COUNTS. Prove the row's statement (the work); the ties are given (YtopgjbjpmnlldaaDoorTie.lean); close each card by the builder's one call (the guide's Derived/Test/ToyasCard.lean, 'card_holds'). Laid BY PROGRAM, IN A SANDBOX (cutbox-door.mjs). By AI agents, Wed Nov 11 2026. No macro, syntax, notation, axiom, sorry.
-/
import Derived.Test.YtopgjbjpmnlldaaDoorRows
import GoSem.ClaimSeven
namespace Go.Proofs.YtopgjbjpmnlldaaDoor
namespace Rows

/-- THE TIED CARD OF 'spanlaw2.NarrowKeeps'. -/
def narrowKeepsCard : Claim7 := { stood := { row := narrowKeepsRow, standIns := [], harness := (true, "81e5e7a0832d8737f58bea7b0b5dc6a3e1fad632e21171769fdfff66c1c4c699"), looks := true }, kinds := [], alts := [], laidByText := true, laidKinds := [.handle], laidTests := true, laidLooks := .later }
def NarrowKeepsCardSaid : Prop := Claim7.holds Tryd.pinned (.plain (OpenSpec.ofChange narrowKeepsSpec)) narrowKeepsCard

/-- THE TIED CARD OF 'spanlaw4.LogMany'. -/
def logManyCard : Claim7 := { stood := { row := logManyRow, standIns := [], harness := (true, "81e5e7a0832d8737f58bea7b0b5dc6a3e1fad632e21171769fdfff66c1c4c699"), looks := true }, kinds := [], alts := [], laidByText := true, laidKinds := [.data, .data, .data, .handle], laidTests := true, laidLooks := .later }
def LogManyCardSaid : Prop := Claim7.holds Tryd.pinned (.plain (OpenSpec.ofChange logManySpec)) logManyCard

/-- THE TIED CARD OF 'spanlaw3.LogStops'. -/
def logStopsCard : Claim7 := { stood := { row := logStopsRow, standIns := [], harness := (true, "81e5e7a0832d8737f58bea7b0b5dc6a3e1fad632e21171769fdfff66c1c4c699"), looks := true }, kinds := [], alts := [], laidByText := true, laidKinds := [.data, .data, .data, .handle], laidTests := true, laidLooks := .later }
def LogStopsCardSaid : Prop := Claim7.holds Tryd.pinned (.plain (OpenSpec.ofChange logStopsSpec)) logStopsCard

/-- THE TIED CARD OF 'spanlaw3.LogKeeps'. -/
def logKeepsCard : Claim7 := { stood := { row := logKeepsRow, standIns := [], harness := (true, "81e5e7a0832d8737f58bea7b0b5dc6a3e1fad632e21171769fdfff66c1c4c699"), looks := true }, kinds := [], alts := [], laidByText := true, laidKinds := [.data, .data, .data, .handle], laidTests := true, laidLooks := .later }
def LogKeepsCardSaid : Prop := Claim7.holds Tryd.pinned (.plain (OpenSpec.ofChange logKeepsSpec)) logKeepsCard

/-- THE TIED CARD OF 'spanlaw1.UnitBetween'. -/
def unitBetweenCard : Claim7 := { stood := { row := unitBetweenRow, standIns := [], harness := (true, "81e5e7a0832d8737f58bea7b0b5dc6a3e1fad632e21171769fdfff66c1c4c699"), looks := true }, kinds := [], alts := [], laidByText := true, laidKinds := [.data, .data, .data, .sentinel, .sentinel], laidTests := true, laidLooks := .later }
def UnitBetweenCardSaid : Prop := Claim7.holds Tryd.pinned (.plain (OpenSpec.ofChange unitBetweenSpec)) unitBetweenCard

/-- THE SECOND FORM's CARD OF 'spanlaw2.NarrowKeeps'. -/
def narrowKeepsUptoCard : Claim7 := { stood := { row := narrowKeepsUptoRow, standIns := [], harness := (true, "81e5e7a0832d8737f58bea7b0b5dc6a3e1fad632e21171769fdfff66c1c4c699"), looks := true }, kinds := [], alts := [], laidByText := true, laidKinds := [.handle], laidTests := true, laidLooks := .later }
def NarrowKeepsUptoCardSaid : Prop := Claim7.holds Tryd.pinned (.plain (OpenSpec.upto narrowKeepsSpec)) narrowKeepsUptoCard

/-- THE SECOND FORM's CARD OF 'spanlaw4.LogMany'. -/
def logManyUptoCard : Claim7 := { stood := { row := logManyUptoRow, standIns := [], harness := (true, "81e5e7a0832d8737f58bea7b0b5dc6a3e1fad632e21171769fdfff66c1c4c699"), looks := true }, kinds := [], alts := [], laidByText := true, laidKinds := [.data, .data, .data, .handle], laidTests := true, laidLooks := .later }
def LogManyUptoCardSaid : Prop := Claim7.holds Tryd.pinned (.plain (OpenSpec.upto logManySpec)) logManyUptoCard

/-- THE SECOND FORM's CARD OF 'spanlaw3.LogStops'. -/
def logStopsUptoCard : Claim7 := { stood := { row := logStopsUptoRow, standIns := [], harness := (true, "81e5e7a0832d8737f58bea7b0b5dc6a3e1fad632e21171769fdfff66c1c4c699"), looks := true }, kinds := [], alts := [], laidByText := true, laidKinds := [.data, .data, .data, .handle], laidTests := true, laidLooks := .later }
def LogStopsUptoCardSaid : Prop := Claim7.holds Tryd.pinned (.plain (OpenSpec.upto logStopsSpec)) logStopsUptoCard

/-- THE SECOND FORM's CARD OF 'spanlaw3.LogKeeps'. -/
def logKeepsUptoCard : Claim7 := { stood := { row := logKeepsUptoRow, standIns := [], harness := (true, "81e5e7a0832d8737f58bea7b0b5dc6a3e1fad632e21171769fdfff66c1c4c699"), looks := true }, kinds := [], alts := [], laidByText := true, laidKinds := [.data, .data, .data, .handle], laidTests := true, laidLooks := .later }
def LogKeepsUptoCardSaid : Prop := Claim7.holds Tryd.pinned (.plain (OpenSpec.upto logKeepsSpec)) logKeepsUptoCard

/-- THE SECOND FORM's CARD OF 'spanlaw1.UnitBetween'. -/
def unitBetweenUptoCard : Claim7 := { stood := { row := unitBetweenUptoRow, standIns := [], harness := (true, "81e5e7a0832d8737f58bea7b0b5dc6a3e1fad632e21171769fdfff66c1c4c699"), looks := true }, kinds := [], alts := [], laidByText := true, laidKinds := [.data, .data, .data, .sentinel, .sentinel], laidTests := true, laidLooks := .later }
def UnitBetweenUptoCardSaid : Prop := Claim7.holds Tryd.pinned (.plain (OpenSpec.upto unitBetweenSpec)) unitBetweenUptoCard
end Rows
end Go.Proofs.YtopgjbjpmnlldaaDoor
