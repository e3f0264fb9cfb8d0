/-
  DERIVED. GIVEN WITH THE SEED: THE CARDS: each row of YtmhhklenaadobaaDoorRows.lean that lists a variable, with what it lists TIED to the program's text (the seventh form; the later family's looks); each row that meets fmt, with fmt's text TOLD by the authors' own Lean function (tested against real Go, not proved from fmt's source: count such statements apart). THE CARD IS WHAT COUNTS. Prove the row's statement (the work); the ties are given (YtmhhklenaadobaaDoorTie.lean); close each card by the builder's one call (the guide's Derived/Test/ToyasCard.lean, 'card_holds'). Laid BY PROGRAM, IN A SANDBOX (cutbox-door.mjs). By AI agents, Wed Nov 11 2026. No macro, syntax, notation, axiom, sorry.
-/
import Derived.Test.YtmhhklenaadobaaDoorRows
import GoSem.ClaimSeven
namespace Go.Proofs.YtmhhklenaadobaaDoor
namespace Rows

/-- THE TIED CARD OF 'scribelaw06.CellTexts'. -/
def cellTextsCard : Claim7 := { stood := { row := cellTextsRow, standIns := [], harness := (true, "6a9bb2411bc6bc0a421890b6d0b05e96cfb55f06fab0363153adfb10d3bcb053"), looks := false }, kinds := [], alts := [], laidByText := true, laidKinds := [.data, .data, .data, .data, .pinned], laidTests := true, laidLooks := .later }
def CellTextsCardSaid : Prop := Claim7.holds Tryd.pinned (.plain (OpenSpec.ofChange cellTextsSpec)) cellTextsCard

/-- THE TIED CARD OF 'scribelaw06.CellTurns'. -/
def cellTurnsCard : Claim7 := { stood := { row := cellTurnsRow, standIns := [], harness := (true, "6a9bb2411bc6bc0a421890b6d0b05e96cfb55f06fab0363153adfb10d3bcb053"), looks := false }, kinds := [], alts := [], laidByText := true, laidKinds := [.data, .data, .data, .data, .pinned], laidTests := true, laidLooks := .later }
def CellTurnsCardSaid : Prop := Claim7.holds Tryd.pinned (.plain (OpenSpec.ofChange cellTurnsSpec)) cellTurnsCard

/-- THE TIED CARD OF 'scribelaw06.CellOrders'. -/
def cellOrdersCard : Claim7 := { stood := { row := cellOrdersRow, standIns := [], harness := (true, "6a9bb2411bc6bc0a421890b6d0b05e96cfb55f06fab0363153adfb10d3bcb053"), looks := false }, kinds := [], alts := [], laidByText := true, laidKinds := [.data, .data, .data, .data, .pinned], laidTests := true, laidLooks := .later }
def CellOrdersCardSaid : Prop := Claim7.holds Tryd.pinned (.plain (OpenSpec.ofChange cellOrdersSpec)) cellOrdersCard

/-- THE TIED CARD OF 'scribelaw06.CellThrough'. -/
def cellThroughCard : Claim7 := { stood := { row := cellThroughRow, standIns := [], harness := (true, "6a9bb2411bc6bc0a421890b6d0b05e96cfb55f06fab0363153adfb10d3bcb053"), looks := false }, kinds := [], alts := [], laidByText := true, laidKinds := [.data, .data, .data, .data, .pinned], laidTests := true, laidLooks := .later }
def CellThroughCardSaid : Prop := Claim7.holds Tryd.pinned (.plain (OpenSpec.ofChange cellThroughSpec)) cellThroughCard

/-- THE TIED CARD OF 'scribelaw06.CellIs'. -/
def cellIsCard : Claim7 := { stood := { row := cellIsRow, standIns := [], harness := (true, "6a9bb2411bc6bc0a421890b6d0b05e96cfb55f06fab0363153adfb10d3bcb053"), looks := false }, kinds := [], alts := [], laidByText := true, laidKinds := [.data, .data, .data, .data, .pinned], laidTests := true, laidLooks := .later }
def CellIsCardSaid : Prop := Claim7.holds Tryd.pinned (.plain (OpenSpec.ofChange cellIsSpec)) cellIsCard

/-- THE TIED CARD OF 'scribelaw06.CellMakes'. -/
def cellMakesCard : Claim7 := { stood := { row := cellMakesRow, standIns := [], harness := (true, "6a9bb2411bc6bc0a421890b6d0b05e96cfb55f06fab0363153adfb10d3bcb053"), looks := false }, kinds := [], alts := [], laidByText := true, laidKinds := [.data, .data, .data, .data, .pinned], laidTests := true, laidLooks := .later }
def CellMakesCardSaid : Prop := Claim7.holds Tryd.pinned (.plain (OpenSpec.ofChange cellMakesSpec)) cellMakesCard

/-- THE TIED CARD OF 'scribelaw06.CellBools'. -/
def cellBoolsCard : Claim7 := { stood := { row := cellBoolsRow, standIns := [], harness := (true, "6a9bb2411bc6bc0a421890b6d0b05e96cfb55f06fab0363153adfb10d3bcb053"), looks := false }, kinds := [], alts := [], laidByText := true, laidKinds := [.data, .data, .data, .data, .pinned], laidTests := true, laidLooks := .later }
def CellBoolsCardSaid : Prop := Claim7.holds Tryd.pinned (.plain (OpenSpec.ofChange cellBoolsSpec)) cellBoolsCard

/-- THE SECOND FORM's CARD OF 'scribelaw06.CellTexts'. -/
def cellTextsUptoCard : Claim7 := { stood := { row := cellTextsUptoRow, standIns := [], harness := (true, "6a9bb2411bc6bc0a421890b6d0b05e96cfb55f06fab0363153adfb10d3bcb053"), looks := false }, kinds := [], alts := [], laidByText := true, laidKinds := [.data, .data, .data, .data, .pinned], laidTests := true, laidLooks := .later }
def CellTextsUptoCardSaid : Prop := Claim7.holds Tryd.pinned (.plain (OpenSpec.upto cellTextsSpec)) cellTextsUptoCard

/-- THE SECOND FORM's CARD OF 'scribelaw06.CellTurns'. -/
def cellTurnsUptoCard : Claim7 := { stood := { row := cellTurnsUptoRow, standIns := [], harness := (true, "6a9bb2411bc6bc0a421890b6d0b05e96cfb55f06fab0363153adfb10d3bcb053"), looks := false }, kinds := [], alts := [], laidByText := true, laidKinds := [.data, .data, .data, .data, .pinned], laidTests := true, laidLooks := .later }
def CellTurnsUptoCardSaid : Prop := Claim7.holds Tryd.pinned (.plain (OpenSpec.upto cellTurnsSpec)) cellTurnsUptoCard

/-- THE SECOND FORM's CARD OF 'scribelaw06.CellOrders'. -/
def cellOrdersUptoCard : Claim7 := { stood := { row := cellOrdersUptoRow, standIns := [], harness := (true, "6a9bb2411bc6bc0a421890b6d0b05e96cfb55f06fab0363153adfb10d3bcb053"), looks := false }, kinds := [], alts := [], laidByText := true, laidKinds := [.data, .data, .data, .data, .pinned], laidTests := true, laidLooks := .later }
def CellOrdersUptoCardSaid : Prop := Claim7.holds Tryd.pinned (.plain (OpenSpec.upto cellOrdersSpec)) cellOrdersUptoCard

/-- THE SECOND FORM's CARD OF 'scribelaw06.CellThrough'. -/
def cellThroughUptoCard : Claim7 := { stood := { row := cellThroughUptoRow, standIns := [], harness := (true, "6a9bb2411bc6bc0a421890b6d0b05e96cfb55f06fab0363153adfb10d3bcb053"), looks := false }, kinds := [], alts := [], laidByText := true, laidKinds := [.data, .data, .data, .data, .pinned], laidTests := true, laidLooks := .later }
def CellThroughUptoCardSaid : Prop := Claim7.holds Tryd.pinned (.plain (OpenSpec.upto cellThroughSpec)) cellThroughUptoCard

/-- THE SECOND FORM's CARD OF 'scribelaw06.CellIs'. -/
def cellIsUptoCard : Claim7 := { stood := { row := cellIsUptoRow, standIns := [], harness := (true, "6a9bb2411bc6bc0a421890b6d0b05e96cfb55f06fab0363153adfb10d3bcb053"), looks := false }, kinds := [], alts := [], laidByText := true, laidKinds := [.data, .data, .data, .data, .pinned], laidTests := true, laidLooks := .later }
def CellIsUptoCardSaid : Prop := Claim7.holds Tryd.pinned (.plain (OpenSpec.upto cellIsSpec)) cellIsUptoCard

/-- THE SECOND FORM's CARD OF 'scribelaw06.CellMakes'. -/
def cellMakesUptoCard : Claim7 := { stood := { row := cellMakesUptoRow, standIns := [], harness := (true, "6a9bb2411bc6bc0a421890b6d0b05e96cfb55f06fab0363153adfb10d3bcb053"), looks := false }, kinds := [], alts := [], laidByText := true, laidKinds := [.data, .data, .data, .data, .pinned], laidTests := true, laidLooks := .later }
def CellMakesUptoCardSaid : Prop := Claim7.holds Tryd.pinned (.plain (OpenSpec.upto cellMakesSpec)) cellMakesUptoCard

/-- THE SECOND FORM's CARD OF 'scribelaw06.CellBools'. -/
def cellBoolsUptoCard : Claim7 := { stood := { row := cellBoolsUptoRow, standIns := [], harness := (true, "6a9bb2411bc6bc0a421890b6d0b05e96cfb55f06fab0363153adfb10d3bcb053"), looks := false }, kinds := [], alts := [], laidByText := true, laidKinds := [.data, .data, .data, .data, .pinned], laidTests := true, laidLooks := .later }
def CellBoolsUptoCardSaid : Prop := Claim7.holds Tryd.pinned (.plain (OpenSpec.upto cellBoolsSpec)) cellBoolsUptoCard
end Rows
end Go.Proofs.YtmhhklenaadobaaDoor
