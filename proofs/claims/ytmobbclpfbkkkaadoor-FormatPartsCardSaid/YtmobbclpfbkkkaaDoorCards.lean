/-
  DERIVED. GIVEN WITH THE SEED: THE CARDS: each row of YtmobbclpfbkkkaaDoorRows.lean that lists a variable, with what it lists TIED to the program's text (the seventh form; the later family's looks); each row that meets fmt, with fmt's text TOLD by the authors' own Lean function (tested against real Go, not proved from fmt's source: count such statements apart). THE CARD IS WHAT COUNTS. Prove the row's statement (the work); the ties are given (YtmobbclpfbkkkaaDoorTie.lean); close each card by the builder's one call (the guide's Derived/Test/ToyasCard.lean, 'card_holds'). Laid BY PROGRAM, IN A SANDBOX (cutbox-door.mjs). By AI agents, Wed Nov 11 2026. No macro, syntax, notation, axiom, sorry.
-/
import Derived.Test.YtmobbclpfbkkkaaDoorRows
import GoSem.ClaimSeven
namespace Go.Proofs.YtmobbclpfbkkkaaDoor
namespace Rows

/-- THE TIED CARD OF 'scribelaw07.FormatPlain'. -/
def formatPlainCard : Claim7 := { stood := { row := formatPlainRow, standIns := [], harness := (true, "5ab077ac9de304bb041b0195a0e21eba4820f14351a7920d5e43e63a11c4cb17"), looks := false }, kinds := [], alts := [], laidByText := true, laidKinds := [.data, .data, .data, .data, .pinned], laidTests := true, laidLooks := .later }
def FormatPlainCardSaid : Prop := Claim7.holds Tryd.pinned (.plain (OpenSpec.ofChange formatPlainSpec)) formatPlainCard

/-- THE TIED CARD OF 'scribelaw07.FormatParts'. -/
def formatPartsCard : Claim7 := { stood := { row := formatPartsRow, standIns := [], harness := (true, "5ab077ac9de304bb041b0195a0e21eba4820f14351a7920d5e43e63a11c4cb17"), looks := false }, kinds := [], alts := [], laidByText := true, laidKinds := [.data, .data, .data, .data, .pinned], laidTests := true, laidLooks := .later }
def FormatPartsCardSaid : Prop := Claim7.holds Tryd.pinned (.plain (OpenSpec.ofChange formatPartsSpec)) formatPartsCard

/-- THE TIED CARD OF 'scribelaw07.FormatWide'. -/
def formatWideCard : Claim7 := { stood := { row := formatWideRow, standIns := [], harness := (true, "5ab077ac9de304bb041b0195a0e21eba4820f14351a7920d5e43e63a11c4cb17"), looks := false }, kinds := [], alts := [], laidByText := true, laidKinds := [.data, .data, .data, .data, .pinned], laidTests := true, laidLooks := .later }
def FormatWideCardSaid : Prop := Claim7.holds Tryd.pinned (.plain (OpenSpec.ofChange formatWideSpec)) formatWideCard

/-- THE TIED CARD OF 'scribelaw07.FormatPlaces'. -/
def formatPlacesCard : Claim7 := { stood := { row := formatPlacesRow, standIns := [], harness := (true, "5ab077ac9de304bb041b0195a0e21eba4820f14351a7920d5e43e63a11c4cb17"), looks := false }, kinds := [], alts := [], laidByText := true, laidKinds := [.data, .data, .data, .data, .pinned], laidTests := true, laidLooks := .later }
def FormatPlacesCardSaid : Prop := Claim7.holds Tryd.pinned (.plain (OpenSpec.ofChange formatPlacesSpec)) formatPlacesCard

/-- THE TIED CARD OF 'scribelaw07.FormatValues'. -/
def formatValuesCard : Claim7 := { stood := { row := formatValuesRow, standIns := [], harness := (true, "5ab077ac9de304bb041b0195a0e21eba4820f14351a7920d5e43e63a11c4cb17"), looks := false }, kinds := [], alts := [], laidByText := true, laidKinds := [.data, .data, .data, .data, .pinned], laidTests := true, laidLooks := .later }
def FormatValuesCardSaid : Prop := Claim7.holds Tryd.pinned (.plain (OpenSpec.ofChange formatValuesSpec)) formatValuesCard

/-- THE SECOND FORM's CARD OF 'scribelaw07.FormatPlain'. -/
def formatPlainUptoCard : Claim7 := { stood := { row := formatPlainUptoRow, standIns := [], harness := (true, "5ab077ac9de304bb041b0195a0e21eba4820f14351a7920d5e43e63a11c4cb17"), looks := false }, kinds := [], alts := [], laidByText := true, laidKinds := [.data, .data, .data, .data, .pinned], laidTests := true, laidLooks := .later }
def FormatPlainUptoCardSaid : Prop := Claim7.holds Tryd.pinned (.plain (OpenSpec.upto formatPlainSpec)) formatPlainUptoCard

/-- THE SECOND FORM's CARD OF 'scribelaw07.FormatParts'. -/
def formatPartsUptoCard : Claim7 := { stood := { row := formatPartsUptoRow, standIns := [], harness := (true, "5ab077ac9de304bb041b0195a0e21eba4820f14351a7920d5e43e63a11c4cb17"), looks := false }, kinds := [], alts := [], laidByText := true, laidKinds := [.data, .data, .data, .data, .pinned], laidTests := true, laidLooks := .later }
def FormatPartsUptoCardSaid : Prop := Claim7.holds Tryd.pinned (.plain (OpenSpec.upto formatPartsSpec)) formatPartsUptoCard

/-- THE SECOND FORM's CARD OF 'scribelaw07.FormatWide'. -/
def formatWideUptoCard : Claim7 := { stood := { row := formatWideUptoRow, standIns := [], harness := (true, "5ab077ac9de304bb041b0195a0e21eba4820f14351a7920d5e43e63a11c4cb17"), looks := false }, kinds := [], alts := [], laidByText := true, laidKinds := [.data, .data, .data, .data, .pinned], laidTests := true, laidLooks := .later }
def FormatWideUptoCardSaid : Prop := Claim7.holds Tryd.pinned (.plain (OpenSpec.upto formatWideSpec)) formatWideUptoCard

/-- THE SECOND FORM's CARD OF 'scribelaw07.FormatPlaces'. -/
def formatPlacesUptoCard : Claim7 := { stood := { row := formatPlacesUptoRow, standIns := [], harness := (true, "5ab077ac9de304bb041b0195a0e21eba4820f14351a7920d5e43e63a11c4cb17"), looks := false }, kinds := [], alts := [], laidByText := true, laidKinds := [.data, .data, .data, .data, .pinned], laidTests := true, laidLooks := .later }
def FormatPlacesUptoCardSaid : Prop := Claim7.holds Tryd.pinned (.plain (OpenSpec.upto formatPlacesSpec)) formatPlacesUptoCard

/-- THE SECOND FORM's CARD OF 'scribelaw07.FormatValues'. -/
def formatValuesUptoCard : Claim7 := { stood := { row := formatValuesUptoRow, standIns := [], harness := (true, "5ab077ac9de304bb041b0195a0e21eba4820f14351a7920d5e43e63a11c4cb17"), looks := false }, kinds := [], alts := [], laidByText := true, laidKinds := [.data, .data, .data, .data, .pinned], laidTests := true, laidLooks := .later }
def FormatValuesUptoCardSaid : Prop := Claim7.holds Tryd.pinned (.plain (OpenSpec.upto formatValuesSpec)) formatValuesUptoCard
end Rows
end Go.Proofs.YtmobbclpfbkkkaaDoor
