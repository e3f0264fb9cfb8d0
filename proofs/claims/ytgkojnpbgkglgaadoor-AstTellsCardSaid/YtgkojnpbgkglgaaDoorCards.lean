/-
  DERIVED. GIVEN WITH THE SEED: THE CARDS: each row of YtgkojnpbgkglgaaDoorRows.lean that lists a variable, with what it lists TIED to the program's text (the seventh form; the later family's looks); each row that meets fmt, with fmt's text TOLD by the authors' own Lean function (tested against real Go, not proved from fmt's source: count such statements apart). THE CARD IS WHAT COUNTS. Prove the row's statement (the work); the ties are given (YtgkojnpbgkglgaaDoorTie.lean); close each card by the builder's one call (the guide's Derived/Test/ToyasCard.lean, 'card_holds'). Laid BY PROGRAM, IN A SANDBOX (cutbox-door.mjs). By AI agents, Wed Nov 11 2026. No macro, syntax, notation, axiom, sorry.
-/
import Derived.Test.YtgkojnpbgkglgaaDoorRows
import GoSem.ClaimSeven
namespace Go.Proofs.YtgkojnpbgkglgaaDoor
namespace Rows

/-- THE TIED CARD OF 'scribelaw12.AstLeft'. -/
def astLeftCard : Claim7 := { stood := { row := astLeftRow, standIns := [], harness := (true, "be339a2f1f94f0ab509622314becab6bc94b93120a05078e4f6278085d1a309f"), looks := false }, kinds := [], alts := [], laidByText := true, laidKinds := [.data, .data, .data], laidTests := true, laidLooks := .later }
def AstLeftCardSaid : Prop := Claim7.holds Tryd.pinned (.plain (OpenSpec.ofChange astLeftSpec)) astLeftCard

/-- THE TIED CARD OF 'scribelaw12.AstKids'. -/
def astKidsCard : Claim7 := { stood := { row := astKidsRow, standIns := [], harness := (true, "be339a2f1f94f0ab509622314becab6bc94b93120a05078e4f6278085d1a309f"), looks := false }, kinds := [], alts := [], laidByText := true, laidKinds := [.data, .data, .data], laidTests := true, laidLooks := .later }
def AstKidsCardSaid : Prop := Claim7.holds Tryd.pinned (.plain (OpenSpec.ofChange astKidsSpec)) astKidsCard

/-- THE TIED CARD OF 'scribelaw12.AstPrints'. -/
def astPrintsCard : Claim7 := { stood := { row := astPrintsRow, standIns := [], harness := (true, "be339a2f1f94f0ab509622314becab6bc94b93120a05078e4f6278085d1a309f"), looks := false }, kinds := [], alts := [], laidByText := true, laidKinds := [.data, .data, .data], laidTests := true, laidLooks := .later }
def AstPrintsCardSaid : Prop := Claim7.holds Tryd.pinned (.plain (OpenSpec.ofChange astPrintsSpec)) astPrintsCard

/-- THE TIED CARD OF 'scribelaw12.AstOther'. -/
def astOtherCard : Claim7 := { stood := { row := astOtherRow, standIns := [], harness := (true, "be339a2f1f94f0ab509622314becab6bc94b93120a05078e4f6278085d1a309f"), looks := false }, kinds := [], alts := [], laidByText := true, laidKinds := [.data, .data, .data], laidTests := true, laidLooks := .later }
def AstOtherCardSaid : Prop := Claim7.holds Tryd.pinned (.plain (OpenSpec.ofChange astOtherSpec)) astOtherCard

/-- THE TIED CARD OF 'scribelaw12.AstTells'. -/
def astTellsCard : Claim7 := { stood := { row := astTellsRow, standIns := [], harness := (true, "be339a2f1f94f0ab509622314becab6bc94b93120a05078e4f6278085d1a309f"), looks := false }, kinds := [], alts := [], laidByText := true, laidKinds := [.data, .data, .data], laidTests := true, laidLooks := .later }
def AstTellsCardSaid : Prop := Claim7.holds Tryd.pinned (.plain (OpenSpec.ofChange astTellsSpec)) astTellsCard

/-- THE SECOND FORM's CARD OF 'scribelaw12.AstLeft'. -/
def astLeftUptoCard : Claim7 := { stood := { row := astLeftUptoRow, standIns := [], harness := (true, "be339a2f1f94f0ab509622314becab6bc94b93120a05078e4f6278085d1a309f"), looks := false }, kinds := [], alts := [], laidByText := true, laidKinds := [.data, .data, .data], laidTests := true, laidLooks := .later }
def AstLeftUptoCardSaid : Prop := Claim7.holds Tryd.pinned (.plain (OpenSpec.upto astLeftSpec)) astLeftUptoCard

/-- THE SECOND FORM's CARD OF 'scribelaw12.AstKids'. -/
def astKidsUptoCard : Claim7 := { stood := { row := astKidsUptoRow, standIns := [], harness := (true, "be339a2f1f94f0ab509622314becab6bc94b93120a05078e4f6278085d1a309f"), looks := false }, kinds := [], alts := [], laidByText := true, laidKinds := [.data, .data, .data], laidTests := true, laidLooks := .later }
def AstKidsUptoCardSaid : Prop := Claim7.holds Tryd.pinned (.plain (OpenSpec.upto astKidsSpec)) astKidsUptoCard

/-- THE SECOND FORM's CARD OF 'scribelaw12.AstPrints'. -/
def astPrintsUptoCard : Claim7 := { stood := { row := astPrintsUptoRow, standIns := [], harness := (true, "be339a2f1f94f0ab509622314becab6bc94b93120a05078e4f6278085d1a309f"), looks := false }, kinds := [], alts := [], laidByText := true, laidKinds := [.data, .data, .data], laidTests := true, laidLooks := .later }
def AstPrintsUptoCardSaid : Prop := Claim7.holds Tryd.pinned (.plain (OpenSpec.upto astPrintsSpec)) astPrintsUptoCard

/-- THE SECOND FORM's CARD OF 'scribelaw12.AstOther'. -/
def astOtherUptoCard : Claim7 := { stood := { row := astOtherUptoRow, standIns := [], harness := (true, "be339a2f1f94f0ab509622314becab6bc94b93120a05078e4f6278085d1a309f"), looks := false }, kinds := [], alts := [], laidByText := true, laidKinds := [.data, .data, .data], laidTests := true, laidLooks := .later }
def AstOtherUptoCardSaid : Prop := Claim7.holds Tryd.pinned (.plain (OpenSpec.upto astOtherSpec)) astOtherUptoCard

/-- THE SECOND FORM's CARD OF 'scribelaw12.AstTells'. -/
def astTellsUptoCard : Claim7 := { stood := { row := astTellsUptoRow, standIns := [], harness := (true, "be339a2f1f94f0ab509622314becab6bc94b93120a05078e4f6278085d1a309f"), looks := false }, kinds := [], alts := [], laidByText := true, laidKinds := [.data, .data, .data], laidTests := true, laidLooks := .later }
def AstTellsUptoCardSaid : Prop := Claim7.holds Tryd.pinned (.plain (OpenSpec.upto astTellsSpec)) astTellsUptoCard
end Rows
end Go.Proofs.YtgkojnpbgkglgaaDoor
