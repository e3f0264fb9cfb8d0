/-
  DERIVED. GIVEN WITH THE SEED: THE CARDS: each row of YtghabadccaghcaaDoorRows.lean that lists a variable, with what it lists TIED to the program's text (the seventh form; the later family's looks); each row that meets fmt, with fmt's text TOLD by the authors' own Lean function (tested against real Go, not proved from fmt's source: count such statements apart). THE CARD IS WHAT COUNTS. Prove the row's statement (the work); the ties are given (YtghabadccaghcaaDoorTie.lean); close each card by the builder's one call (the guide's Derived/Test/ToyasCard.lean, 'card_holds'). Laid BY PROGRAM, IN A SANDBOX (cutbox-door.mjs). By AI agents, Wed Nov 11 2026. No macro, syntax, notation, axiom, sorry.
-/
import Derived.Test.YtghabadccaghcaaDoorRows
import GoSem.ClaimSeven
namespace Go.Proofs.YtghabadccaghcaaDoor
namespace Rows

/-- THE TIED CARD OF 'scribelaw01.PackWrites'. -/
def packWritesCard : Claim7 := { stood := { row := packWritesRow, standIns := [], harness := (true, "cc310e3b3f3852c3fdec558ae694f4932c0e2eafebe39c14588e5b91dae3d860"), looks := false }, kinds := [], alts := [], laidByText := true, laidKinds := [.data, .data, .data], laidTests := true, laidLooks := .later }
def PackWritesCardSaid : Prop := Claim7.holds Tryd.pinned (.plain (OpenSpec.ofChange packWritesSpec)) packWritesCard

/-- THE TIED CARD OF 'scribelaw01.PackOne'. -/
def packOneCard : Claim7 := { stood := { row := packOneRow, standIns := [], harness := (true, "cc310e3b3f3852c3fdec558ae694f4932c0e2eafebe39c14588e5b91dae3d860"), looks := false }, kinds := [], alts := [], laidByText := true, laidKinds := [.data, .data, .data], laidTests := true, laidLooks := .later }
def PackOneCardSaid : Prop := Claim7.holds Tryd.pinned (.plain (OpenSpec.ofChange packOneSpec)) packOneCard

/-- THE TIED CARD OF 'scribelaw01.PackBack'. -/
def packBackCard : Claim7 := { stood := { row := packBackRow, standIns := [], harness := (true, "cc310e3b3f3852c3fdec558ae694f4932c0e2eafebe39c14588e5b91dae3d860"), looks := false }, kinds := [], alts := [], laidByText := true, laidKinds := [.data, .data, .data], laidTests := true, laidLooks := .later }
def PackBackCardSaid : Prop := Claim7.holds Tryd.pinned (.plain (OpenSpec.ofChange packBackSpec)) packBackCard

/-- THE TIED CARD OF 'scribelaw01.PackDeep'. -/
def packDeepCard : Claim7 := { stood := { row := packDeepRow, standIns := [], harness := (true, "cc310e3b3f3852c3fdec558ae694f4932c0e2eafebe39c14588e5b91dae3d860"), looks := false }, kinds := [], alts := [], laidByText := true, laidKinds := [.data, .data, .data], laidTests := true, laidLooks := .later }
def PackDeepCardSaid : Prop := Claim7.holds Tryd.pinned (.plain (OpenSpec.ofChange packDeepSpec)) packDeepCard

/-- THE TIED CARD OF 'scribelaw01.PackSkips'. -/
def packSkipsCard : Claim7 := { stood := { row := packSkipsRow, standIns := [], harness := (true, "cc310e3b3f3852c3fdec558ae694f4932c0e2eafebe39c14588e5b91dae3d860"), looks := false }, kinds := [], alts := [], laidByText := true, laidKinds := [.data, .data, .data], laidTests := true, laidLooks := .later }
def PackSkipsCardSaid : Prop := Claim7.holds Tryd.pinned (.plain (OpenSpec.ofChange packSkipsSpec)) packSkipsCard

/-- THE TIED CARD OF 'scribelaw01.PackThings'. -/
def packThingsCard : Claim7 := { stood := { row := packThingsRow, standIns := [], harness := (true, "cc310e3b3f3852c3fdec558ae694f4932c0e2eafebe39c14588e5b91dae3d860"), looks := false }, kinds := [], alts := [], laidByText := true, laidKinds := [.data, .data, .data], laidTests := true, laidLooks := .later }
def PackThingsCardSaid : Prop := Claim7.holds Tryd.pinned (.plain (OpenSpec.ofChange packThingsSpec)) packThingsCard

/-- THE TIED CARD OF 'scribelaw01.PackParts'. -/
def packPartsCard : Claim7 := { stood := { row := packPartsRow, standIns := [], harness := (true, "cc310e3b3f3852c3fdec558ae694f4932c0e2eafebe39c14588e5b91dae3d860"), looks := false }, kinds := [], alts := [], laidByText := true, laidKinds := [.data, .data, .data], laidTests := true, laidLooks := .later }
def PackPartsCardSaid : Prop := Claim7.holds Tryd.pinned (.plain (OpenSpec.ofChange packPartsSpec)) packPartsCard

/-- THE TIED CARD OF 'scribelaw01.PackCut'. -/
def packCutCard : Claim7 := { stood := { row := packCutRow, standIns := [], harness := (true, "cc310e3b3f3852c3fdec558ae694f4932c0e2eafebe39c14588e5b91dae3d860"), looks := false }, kinds := [], alts := [], laidByText := true, laidKinds := [.data, .data, .data], laidTests := true, laidLooks := .later }
def PackCutCardSaid : Prop := Claim7.holds Tryd.pinned (.plain (OpenSpec.ofChange packCutSpec)) packCutCard

/-- THE SECOND FORM's CARD OF 'scribelaw01.PackWrites'. -/
def packWritesUptoCard : Claim7 := { stood := { row := packWritesUptoRow, standIns := [], harness := (true, "cc310e3b3f3852c3fdec558ae694f4932c0e2eafebe39c14588e5b91dae3d860"), looks := false }, kinds := [], alts := [], laidByText := true, laidKinds := [.data, .data, .data], laidTests := true, laidLooks := .later }
def PackWritesUptoCardSaid : Prop := Claim7.holds Tryd.pinned (.plain (OpenSpec.upto packWritesSpec)) packWritesUptoCard

/-- THE SECOND FORM's CARD OF 'scribelaw01.PackOne'. -/
def packOneUptoCard : Claim7 := { stood := { row := packOneUptoRow, standIns := [], harness := (true, "cc310e3b3f3852c3fdec558ae694f4932c0e2eafebe39c14588e5b91dae3d860"), looks := false }, kinds := [], alts := [], laidByText := true, laidKinds := [.data, .data, .data], laidTests := true, laidLooks := .later }
def PackOneUptoCardSaid : Prop := Claim7.holds Tryd.pinned (.plain (OpenSpec.upto packOneSpec)) packOneUptoCard

/-- THE SECOND FORM's CARD OF 'scribelaw01.PackBack'. -/
def packBackUptoCard : Claim7 := { stood := { row := packBackUptoRow, standIns := [], harness := (true, "cc310e3b3f3852c3fdec558ae694f4932c0e2eafebe39c14588e5b91dae3d860"), looks := false }, kinds := [], alts := [], laidByText := true, laidKinds := [.data, .data, .data], laidTests := true, laidLooks := .later }
def PackBackUptoCardSaid : Prop := Claim7.holds Tryd.pinned (.plain (OpenSpec.upto packBackSpec)) packBackUptoCard

/-- THE SECOND FORM's CARD OF 'scribelaw01.PackDeep'. -/
def packDeepUptoCard : Claim7 := { stood := { row := packDeepUptoRow, standIns := [], harness := (true, "cc310e3b3f3852c3fdec558ae694f4932c0e2eafebe39c14588e5b91dae3d860"), looks := false }, kinds := [], alts := [], laidByText := true, laidKinds := [.data, .data, .data], laidTests := true, laidLooks := .later }
def PackDeepUptoCardSaid : Prop := Claim7.holds Tryd.pinned (.plain (OpenSpec.upto packDeepSpec)) packDeepUptoCard

/-- THE SECOND FORM's CARD OF 'scribelaw01.PackSkips'. -/
def packSkipsUptoCard : Claim7 := { stood := { row := packSkipsUptoRow, standIns := [], harness := (true, "cc310e3b3f3852c3fdec558ae694f4932c0e2eafebe39c14588e5b91dae3d860"), looks := false }, kinds := [], alts := [], laidByText := true, laidKinds := [.data, .data, .data], laidTests := true, laidLooks := .later }
def PackSkipsUptoCardSaid : Prop := Claim7.holds Tryd.pinned (.plain (OpenSpec.upto packSkipsSpec)) packSkipsUptoCard

/-- THE SECOND FORM's CARD OF 'scribelaw01.PackThings'. -/
def packThingsUptoCard : Claim7 := { stood := { row := packThingsUptoRow, standIns := [], harness := (true, "cc310e3b3f3852c3fdec558ae694f4932c0e2eafebe39c14588e5b91dae3d860"), looks := false }, kinds := [], alts := [], laidByText := true, laidKinds := [.data, .data, .data], laidTests := true, laidLooks := .later }
def PackThingsUptoCardSaid : Prop := Claim7.holds Tryd.pinned (.plain (OpenSpec.upto packThingsSpec)) packThingsUptoCard

/-- THE SECOND FORM's CARD OF 'scribelaw01.PackParts'. -/
def packPartsUptoCard : Claim7 := { stood := { row := packPartsUptoRow, standIns := [], harness := (true, "cc310e3b3f3852c3fdec558ae694f4932c0e2eafebe39c14588e5b91dae3d860"), looks := false }, kinds := [], alts := [], laidByText := true, laidKinds := [.data, .data, .data], laidTests := true, laidLooks := .later }
def PackPartsUptoCardSaid : Prop := Claim7.holds Tryd.pinned (.plain (OpenSpec.upto packPartsSpec)) packPartsUptoCard

/-- THE SECOND FORM's CARD OF 'scribelaw01.PackCut'. -/
def packCutUptoCard : Claim7 := { stood := { row := packCutUptoRow, standIns := [], harness := (true, "cc310e3b3f3852c3fdec558ae694f4932c0e2eafebe39c14588e5b91dae3d860"), looks := false }, kinds := [], alts := [], laidByText := true, laidKinds := [.data, .data, .data], laidTests := true, laidLooks := .later }
def PackCutUptoCardSaid : Prop := Claim7.holds Tryd.pinned (.plain (OpenSpec.upto packCutSpec)) packCutUptoCard
end Rows
end Go.Proofs.YtghabadccaghcaaDoor
