/-
  NARROWER THAN 'FOR EVERY INPUT', by the rows' own cells (each row's printed sentence says how): LexPlaces: laid · LexLines: laid · LexBlanks: laid · LexStrings: laid · LexSigns: laid · LexWords: laid · LexReads: laid.
  DERIVED. THE GIVEN ROWS OF THIS SEAT. 7 by the template 'for every input the law returns true; each argument reads behind the call as it read before'; 0 by the template 'total and deterministic' (their statements: YtpnkcihiliagcaaDoorTotals.lean).
  GIVEN WITH THE SEED: the statements are not yours to turn. If you find one false, say at which input.
  Laid BY PROGRAM, IN A SANDBOX (cutbox-rows.mjs): the forced cells as the released guide's own fill.sh prints them over the translation 3c9eecc94d9bc40f… (all of the seat's roots in one cut). By AI agents, Wed Nov 11 2026. No macro, syntax, notation, axiom, sorry.
-/
import Derived.Test.YtpnkcihiliagcaaDoorChecked
import GoSem.Claim
import GoSem.ClaimJoined
import GoSem.ClaimMapViews
import Derived.JoinedTies
import Derived.KernelRfl
namespace Go.Proofs.YtpnkcihiliagcaaDoor
/- THE CELL 'sum', in the pinned program and in every row, IS THE sha256 OF THE DUMP (.gsa) THAT YtpnkcihiliagcaaDoorProg.lean LOADS. Nothing in Lean hashes anything: it is a label: what it is worth is what the hold of that sum in a sandbox is worth. -/
noncomputable def Tryd.pinned : Pinned := { name := "ytpnkcihiliagcaadoor", sum := "3c9eecc94d9bc40f6b7b070e8c7c99306487a60953e277275f49efbcb7fa8d7a", checked := Tryd.checked }
namespace Rows
def none {H : Type} : Left H := { results := [], args := [] }

/- WHAT THE LISTED PACKAGE-LEVEL VARIABLES READ AS WHEN THE CALL BEGINS. Each datum BY PROGRAM (the guide's laid-datum.mjs) off the statement by which the dump's own 'gosem.cut.vars' lays the variable. In a bare row this is a premise. The card (YtpnkcihiliagcaaDoorCards.lean) ties it to the program's text. -/
def laid_scribe_lex_words {H : Type} : DataW H := .slice [.lit (.string [66, 69, 71, 73, 78]), .lit (.string [69, 78, 68]), .lit (.string [102, 117, 110, 99, 116, 105, 111, 110]), .lit (.string [105, 102]), .lit (.string [101, 108, 115, 101]), .lit (.string [119, 104, 105, 108, 101]), .lit (.string [102, 111, 114]), .lit (.string [105, 110]), .lit (.string [98, 114, 101, 97, 107]), .lit (.string [99, 111, 110, 116, 105, 110, 117, 101]), .lit (.string [110, 101, 120, 116]), .lit (.string [101, 120, 105, 116]), .lit (.string [114, 101, 116, 117, 114, 110]), .lit (.string [100, 101, 108, 101, 116, 101]), .lit (.string [112, 114, 105, 110, 116]), .lit (.string [112, 114, 105, 110, 116, 102])] []
def laid_scribe_lex_builtins {H : Type} : DataW H := .slice [.lit (.string [108, 101, 110, 103, 116, 104]), .lit (.string [115, 117, 98, 115, 116, 114]), .lit (.string [105, 110, 100, 101, 120]), .lit (.string [115, 112, 108, 105, 116]), .lit (.string [115, 117, 98]), .lit (.string [103, 115, 117, 98]), .lit (.string [109, 97, 116, 99, 104]), .lit (.string [116, 111, 108, 111, 119, 101, 114]), .lit (.string [116, 111, 117, 112, 112, 101, 114]), .lit (.string [105, 110, 116]), .lit (.string [115, 112, 114, 105, 110, 116, 102]), .lit (.string [114, 97, 110, 100]), .lit (.string [115, 114, 97, 110, 100])] []
def laid_scribe_lex_banned {H : Type} : DataW H := .slice [.lit (.string [103, 101, 116, 108, 105, 110, 101]), .lit (.string [115, 121, 115, 116, 101, 109]), .lit (.string [99, 108, 111, 115, 101]), .lit (.string [102, 102, 108, 117, 115, 104]), .lit (.string [115, 121, 115, 116, 105, 109, 101]), .lit (.string [115, 116, 114, 102, 116, 105, 109, 101])] []

/-- 'scribelaw11.LexPlaces': WHATEVER THE INPUT: true; the input reads as it did. -/
def lexPlacesSpec : ChangeSpec := { name := "lexPlaces", fn := fun _ => fun
  | [d] => { results := [.lit (.bool true)], args := [d] }
  | _ => none }
def lexPlacesRow : OpenClaim := { program := "ytpnkcihiliagcaadoor", sum := "3c9eecc94d9bc40f6b7b070e8c7c99306487a60953e277275f49efbcb7fa8d7a", func := "scribe/scribelaw11.LexPlaces", spec := "lexPlaces", inPlace := ["internal/abi.NoEscape", "internal/bytealg.IndexByteString", "internal/bytealg.IndexString"], unfollowed := true, recurses := true, named := ["scribe/lex.words", "scribe/lex.builtins", "scribe/lex.banned", "internal/bytealg.MaxLen"], apart := false, laid := [("scribe/lex.words", laid_scribe_lex_words), ("scribe/lex.builtins", laid_scribe_lex_builtins), ("scribe/lex.banned", laid_scribe_lex_banned)] }
def LexPlacesSaid : Prop := lexPlacesRow.holds Tryd.pinned (OpenSpec.ofChange lexPlacesSpec)

/-- ITS FALSE NEIGHBOUR: 'it returns false'. Refute it at one input. -/
def lexPlacesWrong : ChangeSpec := { name := "lexPlaces", fn := fun _ => fun
  | [d] => { results := [.lit (.bool false)], args := [d] }
  | _ => none }
def LexPlacesWrongFalsely : Prop := lexPlacesRow.holds Tryd.pinned (OpenSpec.ofChange lexPlacesWrong)

/-- 'scribelaw11.LexLines': WHATEVER THE INPUT: true; the input reads as it did. -/
def lexLinesSpec : ChangeSpec := { name := "lexLines", fn := fun _ => fun
  | [d1, d2] => { results := [.lit (.bool true)], args := [d1, d2] }
  | _ => none }
def lexLinesRow : OpenClaim := { program := "ytpnkcihiliagcaadoor", sum := "3c9eecc94d9bc40f6b7b070e8c7c99306487a60953e277275f49efbcb7fa8d7a", func := "scribe/scribelaw11.LexLines", spec := "lexLines", inPlace := ["internal/abi.NoEscape", "internal/bytealg.IndexByteString", "internal/bytealg.IndexString"], unfollowed := true, recurses := true, named := ["scribe/lex.words", "scribe/lex.builtins", "scribe/lex.banned", "internal/bytealg.MaxLen"], apart := false, laid := [("scribe/lex.words", laid_scribe_lex_words), ("scribe/lex.builtins", laid_scribe_lex_builtins), ("scribe/lex.banned", laid_scribe_lex_banned)] }
def LexLinesSaid : Prop := lexLinesRow.holds Tryd.pinned (OpenSpec.ofChange lexLinesSpec)

/-- ITS FALSE NEIGHBOUR: 'it returns false'. Refute it at one input. -/
def lexLinesWrong : ChangeSpec := { name := "lexLines", fn := fun _ => fun
  | [d1, d2] => { results := [.lit (.bool false)], args := [d1, d2] }
  | _ => none }
def LexLinesWrongFalsely : Prop := lexLinesRow.holds Tryd.pinned (OpenSpec.ofChange lexLinesWrong)

/-- 'scribelaw11.LexBlanks': WHATEVER THE INPUT: true; the input reads as it did. -/
def lexBlanksSpec : ChangeSpec := { name := "lexBlanks", fn := fun _ => fun
  | [d1, d2] => { results := [.lit (.bool true)], args := [d1, d2] }
  | _ => none }
def lexBlanksRow : OpenClaim := { program := "ytpnkcihiliagcaadoor", sum := "3c9eecc94d9bc40f6b7b070e8c7c99306487a60953e277275f49efbcb7fa8d7a", func := "scribe/scribelaw11.LexBlanks", spec := "lexBlanks", inPlace := ["internal/abi.NoEscape", "internal/bytealg.IndexByteString", "internal/bytealg.IndexString"], unfollowed := true, recurses := true, named := ["scribe/lex.words", "scribe/lex.builtins", "scribe/lex.banned", "internal/bytealg.MaxLen"], apart := false, laid := [("scribe/lex.words", laid_scribe_lex_words), ("scribe/lex.builtins", laid_scribe_lex_builtins), ("scribe/lex.banned", laid_scribe_lex_banned)] }
def LexBlanksSaid : Prop := lexBlanksRow.holds Tryd.pinned (OpenSpec.ofChange lexBlanksSpec)

/-- ITS FALSE NEIGHBOUR: 'it returns false'. Refute it at one input. -/
def lexBlanksWrong : ChangeSpec := { name := "lexBlanks", fn := fun _ => fun
  | [d1, d2] => { results := [.lit (.bool false)], args := [d1, d2] }
  | _ => none }
def LexBlanksWrongFalsely : Prop := lexBlanksRow.holds Tryd.pinned (OpenSpec.ofChange lexBlanksWrong)

/-- 'scribelaw11.LexStrings': WHATEVER THE INPUT: true; the input reads as it did. -/
def lexStringsSpec : ChangeSpec := { name := "lexStrings", fn := fun _ => fun
  | [d] => { results := [.lit (.bool true)], args := [d] }
  | _ => none }
def lexStringsRow : OpenClaim := { program := "ytpnkcihiliagcaadoor", sum := "3c9eecc94d9bc40f6b7b070e8c7c99306487a60953e277275f49efbcb7fa8d7a", func := "scribe/scribelaw11.LexStrings", spec := "lexStrings", inPlace := ["internal/abi.NoEscape", "internal/bytealg.IndexByteString", "internal/bytealg.IndexString"], unfollowed := true, recurses := true, named := ["scribe/lex.words", "scribe/lex.builtins", "scribe/lex.banned", "internal/bytealg.MaxLen"], apart := false, laid := [("scribe/lex.words", laid_scribe_lex_words), ("scribe/lex.builtins", laid_scribe_lex_builtins), ("scribe/lex.banned", laid_scribe_lex_banned)] }
def LexStringsSaid : Prop := lexStringsRow.holds Tryd.pinned (OpenSpec.ofChange lexStringsSpec)

/-- ITS FALSE NEIGHBOUR: 'it returns false'. Refute it at one input. -/
def lexStringsWrong : ChangeSpec := { name := "lexStrings", fn := fun _ => fun
  | [d] => { results := [.lit (.bool false)], args := [d] }
  | _ => none }
def LexStringsWrongFalsely : Prop := lexStringsRow.holds Tryd.pinned (OpenSpec.ofChange lexStringsWrong)

/-- 'scribelaw11.LexSigns': WHATEVER THE INPUT: true; the input reads as it did. -/
def lexSignsSpec : ChangeSpec := { name := "lexSigns", fn := fun _ => fun
  | [d] => { results := [.lit (.bool true)], args := [d] }
  | _ => none }
def lexSignsRow : OpenClaim := { program := "ytpnkcihiliagcaadoor", sum := "3c9eecc94d9bc40f6b7b070e8c7c99306487a60953e277275f49efbcb7fa8d7a", func := "scribe/scribelaw11.LexSigns", spec := "lexSigns", inPlace := ["internal/abi.NoEscape", "internal/bytealg.IndexByteString", "internal/bytealg.IndexString"], unfollowed := true, recurses := true, named := ["scribe/lex.words", "scribe/lex.builtins", "scribe/lex.banned", "internal/bytealg.MaxLen"], apart := false, laid := [("scribe/lex.words", laid_scribe_lex_words), ("scribe/lex.builtins", laid_scribe_lex_builtins), ("scribe/lex.banned", laid_scribe_lex_banned)] }
def LexSignsSaid : Prop := lexSignsRow.holds Tryd.pinned (OpenSpec.ofChange lexSignsSpec)

/-- ITS FALSE NEIGHBOUR: 'it returns false'. Refute it at one input. -/
def lexSignsWrong : ChangeSpec := { name := "lexSigns", fn := fun _ => fun
  | [d] => { results := [.lit (.bool false)], args := [d] }
  | _ => none }
def LexSignsWrongFalsely : Prop := lexSignsRow.holds Tryd.pinned (OpenSpec.ofChange lexSignsWrong)

/-- 'scribelaw11.LexWords': WHATEVER THE INPUT: true; the input reads as it did. -/
def lexWordsSpec : ChangeSpec := { name := "lexWords", fn := fun _ => fun
  | [d] => { results := [.lit (.bool true)], args := [d] }
  | _ => none }
def lexWordsRow : OpenClaim := { program := "ytpnkcihiliagcaadoor", sum := "3c9eecc94d9bc40f6b7b070e8c7c99306487a60953e277275f49efbcb7fa8d7a", func := "scribe/scribelaw11.LexWords", spec := "lexWords", inPlace := ["internal/abi.NoEscape", "internal/bytealg.IndexByteString", "internal/bytealg.IndexString"], unfollowed := true, recurses := true, named := ["scribe/lex.words", "scribe/lex.builtins", "scribe/lex.banned", "internal/bytealg.MaxLen"], apart := false, laid := [("scribe/lex.words", laid_scribe_lex_words), ("scribe/lex.builtins", laid_scribe_lex_builtins), ("scribe/lex.banned", laid_scribe_lex_banned)] }
def LexWordsSaid : Prop := lexWordsRow.holds Tryd.pinned (OpenSpec.ofChange lexWordsSpec)

/-- ITS FALSE NEIGHBOUR: 'it returns false'. Refute it at one input. -/
def lexWordsWrong : ChangeSpec := { name := "lexWords", fn := fun _ => fun
  | [d] => { results := [.lit (.bool false)], args := [d] }
  | _ => none }
def LexWordsWrongFalsely : Prop := lexWordsRow.holds Tryd.pinned (OpenSpec.ofChange lexWordsWrong)

/-- 'scribelaw11.LexReads': WHATEVER THE INPUT: true; the input reads as it did. -/
def lexReadsSpec : ChangeSpec := { name := "lexReads", fn := fun _ => fun
  | [d] => { results := [.lit (.bool true)], args := [d] }
  | _ => none }
def lexReadsRow : OpenClaim := { program := "ytpnkcihiliagcaadoor", sum := "3c9eecc94d9bc40f6b7b070e8c7c99306487a60953e277275f49efbcb7fa8d7a", func := "scribe/scribelaw11.LexReads", spec := "lexReads", inPlace := ["internal/abi.NoEscape", "internal/bytealg.IndexByteString", "internal/bytealg.IndexString"], unfollowed := true, recurses := true, named := ["scribe/lex.words", "scribe/lex.builtins", "scribe/lex.banned", "internal/bytealg.MaxLen"], apart := false, laid := [("scribe/lex.words", laid_scribe_lex_words), ("scribe/lex.builtins", laid_scribe_lex_builtins), ("scribe/lex.banned", laid_scribe_lex_banned)] }
def LexReadsSaid : Prop := lexReadsRow.holds Tryd.pinned (OpenSpec.ofChange lexReadsSpec)

/-- ITS FALSE NEIGHBOUR: 'it returns false'. Refute it at one input. -/
def lexReadsWrong : ChangeSpec := { name := "lexReads", fn := fun _ => fun
  | [d] => { results := [.lit (.bool false)], args := [d] }
  | _ => none }
def LexReadsWrongFalsely : Prop := lexReadsRow.holds Tryd.pinned (OpenSpec.ofChange lexReadsWrong)

/- THE SECOND FORM. 'bulk': how many values and letters a reading holds, each counted each time it is reached (what is shared counts as often as it is met; a slice's spare places count too). A statement '..UptoSaid' is the law's where the arguments, and the package variables that the reading takes, are together of bulk at most 1048576: NARROWER than '..Said'. Prove '..Said' where nothing that the law and all that it calls make is longer than what came in: it says more and counts as full. Else prove '..UptoSaid'. A law counts once. -/
mutual
def uptoBulk {H : Type} : DataW H → Nat
  | .lit (.string bytes) => bytes.length + 1
  | .lit _ => 1
  | .nil => 1
  | .ptr d => uptoBulk d + 1
  | .slice elems spare => uptoBulkAll elems + uptoBulkAll spare + 1
  | .agg parts => uptoBulkAll parts + 1
  | .iface _ d => uptoBulk d + 1
  | .map entries => uptoBulkEntries entries + 1
  | .held _ => 1
def uptoBulkAll {H : Type} : List (DataW H) → Nat
  | [] => 0
  | d :: r => uptoBulk d + uptoBulkAll r
def uptoBulkEntries {H : Type} : List (Lit × DataW H) → Nat
  | [] => 0
  | x :: r => uptoBulkEntry x + uptoBulkEntries r
def uptoBulkEntry {H : Type} : Lit × DataW H → Nat
  | (.string bytes, d) => bytes.length + uptoBulk d + 1
  | (_, d) => uptoBulk d + 1
 end
def uptoSmall : (H : Type) → List (DataW H) → Bool := fun _ ds => decide (uptoBulkAll ds ≤ 1048576)
def OpenSpec.upto (s : _root_.Go.ChangeSpec) : _root_.Go.OpenSpec := { _root_.Go.OpenSpec.ofChange s with cond := some uptoSmall }

/-- 'scribelaw11.LexPlaces', WHERE WHAT IT READS IS OF BULK AT MOST 1048576: true; the input reads as it did. -/
def lexPlacesUptoRow : OpenClaim := { program := "ytpnkcihiliagcaadoor", sum := "3c9eecc94d9bc40f6b7b070e8c7c99306487a60953e277275f49efbcb7fa8d7a", func := "scribe/scribelaw11.LexPlaces", spec := "lexPlaces", inPlace := ["internal/abi.NoEscape", "internal/bytealg.IndexByteString", "internal/bytealg.IndexString"], unfollowed := true, recurses := true, named := ["scribe/lex.words", "scribe/lex.builtins", "scribe/lex.banned", "internal/bytealg.MaxLen"], apart := false, laid := [("scribe/lex.words", laid_scribe_lex_words), ("scribe/lex.builtins", laid_scribe_lex_builtins), ("scribe/lex.banned", laid_scribe_lex_banned)], narrowed := true }
def LexPlacesUptoSaid : Prop := lexPlacesUptoRow.holds Tryd.pinned (OpenSpec.upto lexPlacesSpec)

/-- 'scribelaw11.LexLines', WHERE WHAT IT READS IS OF BULK AT MOST 1048576: true; the input reads as it did. -/
def lexLinesUptoRow : OpenClaim := { program := "ytpnkcihiliagcaadoor", sum := "3c9eecc94d9bc40f6b7b070e8c7c99306487a60953e277275f49efbcb7fa8d7a", func := "scribe/scribelaw11.LexLines", spec := "lexLines", inPlace := ["internal/abi.NoEscape", "internal/bytealg.IndexByteString", "internal/bytealg.IndexString"], unfollowed := true, recurses := true, named := ["scribe/lex.words", "scribe/lex.builtins", "scribe/lex.banned", "internal/bytealg.MaxLen"], apart := false, laid := [("scribe/lex.words", laid_scribe_lex_words), ("scribe/lex.builtins", laid_scribe_lex_builtins), ("scribe/lex.banned", laid_scribe_lex_banned)], narrowed := true }
def LexLinesUptoSaid : Prop := lexLinesUptoRow.holds Tryd.pinned (OpenSpec.upto lexLinesSpec)

/-- 'scribelaw11.LexBlanks', WHERE WHAT IT READS IS OF BULK AT MOST 1048576: true; the input reads as it did. -/
def lexBlanksUptoRow : OpenClaim := { program := "ytpnkcihiliagcaadoor", sum := "3c9eecc94d9bc40f6b7b070e8c7c99306487a60953e277275f49efbcb7fa8d7a", func := "scribe/scribelaw11.LexBlanks", spec := "lexBlanks", inPlace := ["internal/abi.NoEscape", "internal/bytealg.IndexByteString", "internal/bytealg.IndexString"], unfollowed := true, recurses := true, named := ["scribe/lex.words", "scribe/lex.builtins", "scribe/lex.banned", "internal/bytealg.MaxLen"], apart := false, laid := [("scribe/lex.words", laid_scribe_lex_words), ("scribe/lex.builtins", laid_scribe_lex_builtins), ("scribe/lex.banned", laid_scribe_lex_banned)], narrowed := true }
def LexBlanksUptoSaid : Prop := lexBlanksUptoRow.holds Tryd.pinned (OpenSpec.upto lexBlanksSpec)

/-- 'scribelaw11.LexStrings', WHERE WHAT IT READS IS OF BULK AT MOST 1048576: true; the input reads as it did. -/
def lexStringsUptoRow : OpenClaim := { program := "ytpnkcihiliagcaadoor", sum := "3c9eecc94d9bc40f6b7b070e8c7c99306487a60953e277275f49efbcb7fa8d7a", func := "scribe/scribelaw11.LexStrings", spec := "lexStrings", inPlace := ["internal/abi.NoEscape", "internal/bytealg.IndexByteString", "internal/bytealg.IndexString"], unfollowed := true, recurses := true, named := ["scribe/lex.words", "scribe/lex.builtins", "scribe/lex.banned", "internal/bytealg.MaxLen"], apart := false, laid := [("scribe/lex.words", laid_scribe_lex_words), ("scribe/lex.builtins", laid_scribe_lex_builtins), ("scribe/lex.banned", laid_scribe_lex_banned)], narrowed := true }
def LexStringsUptoSaid : Prop := lexStringsUptoRow.holds Tryd.pinned (OpenSpec.upto lexStringsSpec)

/-- 'scribelaw11.LexSigns', WHERE WHAT IT READS IS OF BULK AT MOST 1048576: true; the input reads as it did. -/
def lexSignsUptoRow : OpenClaim := { program := "ytpnkcihiliagcaadoor", sum := "3c9eecc94d9bc40f6b7b070e8c7c99306487a60953e277275f49efbcb7fa8d7a", func := "scribe/scribelaw11.LexSigns", spec := "lexSigns", inPlace := ["internal/abi.NoEscape", "internal/bytealg.IndexByteString", "internal/bytealg.IndexString"], unfollowed := true, recurses := true, named := ["scribe/lex.words", "scribe/lex.builtins", "scribe/lex.banned", "internal/bytealg.MaxLen"], apart := false, laid := [("scribe/lex.words", laid_scribe_lex_words), ("scribe/lex.builtins", laid_scribe_lex_builtins), ("scribe/lex.banned", laid_scribe_lex_banned)], narrowed := true }
def LexSignsUptoSaid : Prop := lexSignsUptoRow.holds Tryd.pinned (OpenSpec.upto lexSignsSpec)

/-- 'scribelaw11.LexWords', WHERE WHAT IT READS IS OF BULK AT MOST 1048576: true; the input reads as it did. -/
def lexWordsUptoRow : OpenClaim := { program := "ytpnkcihiliagcaadoor", sum := "3c9eecc94d9bc40f6b7b070e8c7c99306487a60953e277275f49efbcb7fa8d7a", func := "scribe/scribelaw11.LexWords", spec := "lexWords", inPlace := ["internal/abi.NoEscape", "internal/bytealg.IndexByteString", "internal/bytealg.IndexString"], unfollowed := true, recurses := true, named := ["scribe/lex.words", "scribe/lex.builtins", "scribe/lex.banned", "internal/bytealg.MaxLen"], apart := false, laid := [("scribe/lex.words", laid_scribe_lex_words), ("scribe/lex.builtins", laid_scribe_lex_builtins), ("scribe/lex.banned", laid_scribe_lex_banned)], narrowed := true }
def LexWordsUptoSaid : Prop := lexWordsUptoRow.holds Tryd.pinned (OpenSpec.upto lexWordsSpec)

/-- 'scribelaw11.LexReads', WHERE WHAT IT READS IS OF BULK AT MOST 1048576: true; the input reads as it did. -/
def lexReadsUptoRow : OpenClaim := { program := "ytpnkcihiliagcaadoor", sum := "3c9eecc94d9bc40f6b7b070e8c7c99306487a60953e277275f49efbcb7fa8d7a", func := "scribe/scribelaw11.LexReads", spec := "lexReads", inPlace := ["internal/abi.NoEscape", "internal/bytealg.IndexByteString", "internal/bytealg.IndexString"], unfollowed := true, recurses := true, named := ["scribe/lex.words", "scribe/lex.builtins", "scribe/lex.banned", "internal/bytealg.MaxLen"], apart := false, laid := [("scribe/lex.words", laid_scribe_lex_words), ("scribe/lex.builtins", laid_scribe_lex_builtins), ("scribe/lex.banned", laid_scribe_lex_banned)], narrowed := true }
def LexReadsUptoSaid : Prop := lexReadsUptoRow.holds Tryd.pinned (OpenSpec.upto lexReadsSpec)

end Rows
end Go.Proofs.YtpnkcihiliagcaaDoor
