/-
  DERIVED. GIVEN WITH THE SEED: THE CARDS: each row of YtomfbhohaiffpaaDoorRows.lean that lists a variable, with what it lists TIED to the program's text (the seventh form; the later family's looks); each row that meets fmt, with fmt's text TOLD by the authors' own Lean function (tested against real Go, not proved from fmt's source: count such statements apart). THE CARD IS WHAT COUNTS. Prove the row's statement (the work); the ties are given (YtomfbhohaiffpaaDoorTie.lean); close each card by the builder's one call (the guide's Derived/Test/ToyasCard.lean, 'card_holds'). Laid BY PROGRAM, IN A SANDBOX (cutbox-door.mjs). By AI agents, Wed Nov 11 2026. No macro, syntax, notation, axiom, sorry.
-/
import Derived.Test.YtomfbhohaiffpaaDoorRows
import GoSem.ClaimSeven
namespace Go.Proofs.YtomfbhohaiffpaaDoor
namespace Rows

/-- THE TIED CARD OF 'spanlaw2.NarrowTells'. -/
def narrowTellsCard : Claim7 := { stood := { row := narrowTellsRow, standIns := [], harness := (true, "5ab8b7d782c9c3c1eaca6e7bcdacbde78234f7599c357d4e2dfcd916a275b667"), looks := true }, kinds := [], alts := [], laidByText := true, laidKinds := [.handle], laidTests := true, laidLooks := .later }
def NarrowTellsCardSaid : Prop := Claim7.holds Tryd.pinned (.plain (OpenSpec.ofChange narrowTellsSpec)) narrowTellsCard

/-- THE TIED CARD OF 'spanlaw2.NarrowKeeps'. -/
def narrowKeepsCard : Claim7 := { stood := { row := narrowKeepsRow, standIns := [], harness := (true, "5ab8b7d782c9c3c1eaca6e7bcdacbde78234f7599c357d4e2dfcd916a275b667"), looks := true }, kinds := [], alts := [], laidByText := true, laidKinds := [.handle], laidTests := true, laidLooks := .later }
def NarrowKeepsCardSaid : Prop := Claim7.holds Tryd.pinned (.plain (OpenSpec.ofChange narrowKeepsSpec)) narrowKeepsCard

/-- THE SECOND FORM's CARD OF 'spanlaw2.NarrowTells'. -/
def narrowTellsUptoCard : Claim7 := { stood := { row := narrowTellsUptoRow, standIns := [], harness := (true, "5ab8b7d782c9c3c1eaca6e7bcdacbde78234f7599c357d4e2dfcd916a275b667"), looks := true }, kinds := [], alts := [], laidByText := true, laidKinds := [.handle], laidTests := true, laidLooks := .later }
def NarrowTellsUptoCardSaid : Prop := Claim7.holds Tryd.pinned (.plain (OpenSpec.upto narrowTellsSpec)) narrowTellsUptoCard

/-- THE SECOND FORM's CARD OF 'spanlaw2.NarrowKeeps'. -/
def narrowKeepsUptoCard : Claim7 := { stood := { row := narrowKeepsUptoRow, standIns := [], harness := (true, "5ab8b7d782c9c3c1eaca6e7bcdacbde78234f7599c357d4e2dfcd916a275b667"), looks := true }, kinds := [], alts := [], laidByText := true, laidKinds := [.handle], laidTests := true, laidLooks := .later }
def NarrowKeepsUptoCardSaid : Prop := Claim7.holds Tryd.pinned (.plain (OpenSpec.upto narrowKeepsSpec)) narrowKeepsUptoCard
end Rows
end Go.Proofs.YtomfbhohaiffpaaDoor
