/-
  No cell of these rows narrows 'for every input' (looked for: loops, veiled, ifaces, maps, wideKeys, modest, calm, conditions, laid).
  DERIVED. THE GIVEN ROWS OF THIS SEAT. 6 by the template 'for every input the law returns true; each argument reads behind the call as it read before'; 0 by the template 'total and deterministic' (their statements: YtdjnjhmmpjbbaaaTotals.lean).
  GIVEN WITH THE SEED: the statements are not yours to turn. If you find one false, say at which input.
  Laid BY PROGRAM, IN A SANDBOX (cutbox-rows.mjs): the forced cells as the released guide's own fill.sh prints them over the translation d988aefbaca4fb4c… (all of the seat's roots in one cut). By AI agents, Wed Nov 11 2026. No macro, syntax, notation, axiom, sorry.
-/
import Derived.Test.YtdjnjhmmpjbbaaaChecked
import GoSem.Claim
import GoSem.ClaimJoined
import GoSem.ClaimMapViews
import Derived.JoinedTies
import Derived.KernelRfl
namespace Go.Proofs.Ytdjnjhmmpjbbaaa
/- THE CELL 'sum', in the pinned program and in every row, IS THE sha256 OF THE DUMP (.gsa) THAT YtdjnjhmmpjbbaaaProg.lean LOADS. Nothing in Lean hashes anything: it is a label: what it is worth is what the hold of that sum in a sandbox is worth. -/
noncomputable def Try.pinned : Pinned := { name := "ytdjnjhmmpjbbaaa", sum := "d988aefbaca4fb4c7d8eb6eaf2580bad1a8aaa8346d45968cabe883d39f0b8a2", checked := Try.checked }
namespace Rows
def none {H : Type} : Left H := { results := [], args := [] }

/-- 'scribelaw09.RegexQuoted': WHATEVER THE INPUT: true; the input reads as it did. -/
def regexQuotedSpec : ChangeSpec := { name := "regexQuoted", fn := fun _ => fun
  | [d] => { results := [.lit (.bool true)], args := [d] }
  | _ => none }
def regexQuotedRow : OpenClaim := { program := "ytdjnjhmmpjbbaaa", sum := "d988aefbaca4fb4c7d8eb6eaf2580bad1a8aaa8346d45968cabe883d39f0b8a2", func := "scribe/scribelaw09.RegexQuoted", spec := "regexQuoted", recurses := true, apart := false }
def RegexQuotedSaid : Prop := regexQuotedRow.holds Try.pinned (OpenSpec.ofChange regexQuotedSpec)

/-- ITS FALSE NEIGHBOUR: 'it returns false'. Refute it at one input. -/
def regexQuotedWrong : ChangeSpec := { name := "regexQuoted", fn := fun _ => fun
  | [d] => { results := [.lit (.bool false)], args := [d] }
  | _ => none }
def RegexQuotedWrongFalsely : Prop := regexQuotedRow.holds Try.pinned (OpenSpec.ofChange regexQuotedWrong)

/-- 'scribelaw09.RegexNots': WHATEVER THE INPUT: true; the input reads as it did. -/
def regexNotsSpec : ChangeSpec := { name := "regexNots", fn := fun _ => fun
  | [d] => { results := [.lit (.bool true)], args := [d] }
  | _ => none }
def regexNotsRow : OpenClaim := { program := "ytdjnjhmmpjbbaaa", sum := "d988aefbaca4fb4c7d8eb6eaf2580bad1a8aaa8346d45968cabe883d39f0b8a2", func := "scribe/scribelaw09.RegexNots", spec := "regexNots", recurses := true, apart := false }
def RegexNotsSaid : Prop := regexNotsRow.holds Try.pinned (OpenSpec.ofChange regexNotsSpec)

/-- ITS FALSE NEIGHBOUR: 'it returns false'. Refute it at one input. -/
def regexNotsWrong : ChangeSpec := { name := "regexNots", fn := fun _ => fun
  | [d] => { results := [.lit (.bool false)], args := [d] }
  | _ => none }
def RegexNotsWrongFalsely : Prop := regexNotsRow.holds Try.pinned (OpenSpec.ofChange regexNotsWrong)

/-- 'scribelaw09.RegexParses': WHATEVER THE INPUT: true; the input reads as it did. -/
def regexParsesSpec : ChangeSpec := { name := "regexParses", fn := fun _ => fun
  | [d] => { results := [.lit (.bool true)], args := [d] }
  | _ => none }
def regexParsesRow : OpenClaim := { program := "ytdjnjhmmpjbbaaa", sum := "d988aefbaca4fb4c7d8eb6eaf2580bad1a8aaa8346d45968cabe883d39f0b8a2", func := "scribe/scribelaw09.RegexParses", spec := "regexParses", recurses := true, apart := false }
def RegexParsesSaid : Prop := regexParsesRow.holds Try.pinned (OpenSpec.ofChange regexParsesSpec)

/-- ITS FALSE NEIGHBOUR: 'it returns false'. Refute it at one input. -/
def regexParsesWrong : ChangeSpec := { name := "regexParses", fn := fun _ => fun
  | [d] => { results := [.lit (.bool false)], args := [d] }
  | _ => none }
def RegexParsesWrongFalsely : Prop := regexParsesRow.holds Try.pinned (OpenSpec.ofChange regexParsesWrong)

/-- 'scribelaw09.RegexGroup': WHATEVER THE INPUT: true; the input reads as it did. -/
def regexGroupSpec : ChangeSpec := { name := "regexGroup", fn := fun _ => fun
  | [d] => { results := [.lit (.bool true)], args := [d] }
  | _ => none }
def regexGroupRow : OpenClaim := { program := "ytdjnjhmmpjbbaaa", sum := "d988aefbaca4fb4c7d8eb6eaf2580bad1a8aaa8346d45968cabe883d39f0b8a2", func := "scribe/scribelaw09.RegexGroup", spec := "regexGroup", recurses := true, apart := false }
def RegexGroupSaid : Prop := regexGroupRow.holds Try.pinned (OpenSpec.ofChange regexGroupSpec)

/-- ITS FALSE NEIGHBOUR: 'it returns false'. Refute it at one input. -/
def regexGroupWrong : ChangeSpec := { name := "regexGroup", fn := fun _ => fun
  | [d] => { results := [.lit (.bool false)], args := [d] }
  | _ => none }
def RegexGroupWrongFalsely : Prop := regexGroupRow.holds Try.pinned (OpenSpec.ofChange regexGroupWrong)

/-- 'scribelaw09.RegexSigns': WHATEVER THE INPUT: true; the input reads as it did. -/
def regexSignsSpec : ChangeSpec := { name := "regexSigns", fn := fun _ => fun
  | [d1, d2] => { results := [.lit (.bool true)], args := [d1, d2] }
  | _ => none }
def regexSignsRow : OpenClaim := { program := "ytdjnjhmmpjbbaaa", sum := "d988aefbaca4fb4c7d8eb6eaf2580bad1a8aaa8346d45968cabe883d39f0b8a2", func := "scribe/scribelaw09.RegexSigns", spec := "regexSigns", recurses := true, apart := false }
def RegexSignsSaid : Prop := regexSignsRow.holds Try.pinned (OpenSpec.ofChange regexSignsSpec)

/-- ITS FALSE NEIGHBOUR: 'it returns false'. Refute it at one input. -/
def regexSignsWrong : ChangeSpec := { name := "regexSigns", fn := fun _ => fun
  | [d1, d2] => { results := [.lit (.bool false)], args := [d1, d2] }
  | _ => none }
def RegexSignsWrongFalsely : Prop := regexSignsRow.holds Try.pinned (OpenSpec.ofChange regexSignsWrong)

/-- 'scribelaw09.RegexSets': WHATEVER THE INPUT: true; the input reads as it did. -/
def regexSetsSpec : ChangeSpec := { name := "regexSets", fn := fun _ => fun
  | [d1, d2] => { results := [.lit (.bool true)], args := [d1, d2] }
  | _ => none }
def regexSetsRow : OpenClaim := { program := "ytdjnjhmmpjbbaaa", sum := "d988aefbaca4fb4c7d8eb6eaf2580bad1a8aaa8346d45968cabe883d39f0b8a2", func := "scribe/scribelaw09.RegexSets", spec := "regexSets", recurses := true, apart := false }
def RegexSetsSaid : Prop := regexSetsRow.holds Try.pinned (OpenSpec.ofChange regexSetsSpec)

/-- ITS FALSE NEIGHBOUR: 'it returns false'. Refute it at one input. -/
def regexSetsWrong : ChangeSpec := { name := "regexSets", fn := fun _ => fun
  | [d1, d2] => { results := [.lit (.bool false)], args := [d1, d2] }
  | _ => none }
def RegexSetsWrongFalsely : Prop := regexSetsRow.holds Try.pinned (OpenSpec.ofChange regexSetsWrong)

/- THE SECOND FORM. 'bulk': how many values and letters a reading holds, each counted each time it is reached (what is shared counts as often as it is met; a slice's spare places count too). A statement '..UptoSaid' is the law's where the arguments, and the package variables that the reading takes, are together of bulk at most 1048576: NARROWER than '..Said'. Prove '..Said' where nothing that the law and all that it calls make is longer than what came in: it says more and counts as full. Else prove '..UptoSaid'. A law counts once. -/
mutual
def uptoBulk {H : Type} : DataW H → Nat
  | .lit (.string bytes) => bytes.length + 1
  | .lit _ => 1
  | .nil => 1
  | .ptr d => uptoBulk d + 1
  | .slice elems spare => uptoBulkAll elems + uptoBulkAll spare + 1
  | .agg parts => uptoBulkAll parts + 1
  | .iface _ d => uptoBulk d + 1
  | .map entries => uptoBulkEntries entries + 1
  | .held _ => 1
def uptoBulkAll {H : Type} : List (DataW H) → Nat
  | [] => 0
  | d :: r => uptoBulk d + uptoBulkAll r
def uptoBulkEntries {H : Type} : List (Lit × DataW H) → Nat
  | [] => 0
  | x :: r => uptoBulkEntry x + uptoBulkEntries r
def uptoBulkEntry {H : Type} : Lit × DataW H → Nat
  | (.string bytes, d) => bytes.length + uptoBulk d + 1
  | (_, d) => uptoBulk d + 1
 end
def uptoSmall : (H : Type) → List (DataW H) → Bool := fun _ ds => decide (uptoBulkAll ds ≤ 1048576)
def OpenSpec.upto (s : _root_.Go.ChangeSpec) : _root_.Go.OpenSpec := { _root_.Go.OpenSpec.ofChange s with cond := some uptoSmall }

/-- 'scribelaw09.RegexQuoted', WHERE WHAT IT READS IS OF BULK AT MOST 1048576: true; the input reads as it did. -/
def regexQuotedUptoRow : OpenClaim := { program := "ytdjnjhmmpjbbaaa", sum := "d988aefbaca4fb4c7d8eb6eaf2580bad1a8aaa8346d45968cabe883d39f0b8a2", func := "scribe/scribelaw09.RegexQuoted", spec := "regexQuoted", recurses := true, apart := false, narrowed := true }
def RegexQuotedUptoSaid : Prop := regexQuotedUptoRow.holds Try.pinned (OpenSpec.upto regexQuotedSpec)

/-- 'scribelaw09.RegexNots', WHERE WHAT IT READS IS OF BULK AT MOST 1048576: true; the input reads as it did. -/
def regexNotsUptoRow : OpenClaim := { program := "ytdjnjhmmpjbbaaa", sum := "d988aefbaca4fb4c7d8eb6eaf2580bad1a8aaa8346d45968cabe883d39f0b8a2", func := "scribe/scribelaw09.RegexNots", spec := "regexNots", recurses := true, apart := false, narrowed := true }
def RegexNotsUptoSaid : Prop := regexNotsUptoRow.holds Try.pinned (OpenSpec.upto regexNotsSpec)

/-- 'scribelaw09.RegexParses', WHERE WHAT IT READS IS OF BULK AT MOST 1048576: true; the input reads as it did. -/
def regexParsesUptoRow : OpenClaim := { program := "ytdjnjhmmpjbbaaa", sum := "d988aefbaca4fb4c7d8eb6eaf2580bad1a8aaa8346d45968cabe883d39f0b8a2", func := "scribe/scribelaw09.RegexParses", spec := "regexParses", recurses := true, apart := false, narrowed := true }
def RegexParsesUptoSaid : Prop := regexParsesUptoRow.holds Try.pinned (OpenSpec.upto regexParsesSpec)

/-- 'scribelaw09.RegexGroup', WHERE WHAT IT READS IS OF BULK AT MOST 1048576: true; the input reads as it did. -/
def regexGroupUptoRow : OpenClaim := { program := "ytdjnjhmmpjbbaaa", sum := "d988aefbaca4fb4c7d8eb6eaf2580bad1a8aaa8346d45968cabe883d39f0b8a2", func := "scribe/scribelaw09.RegexGroup", spec := "regexGroup", recurses := true, apart := false, narrowed := true }
def RegexGroupUptoSaid : Prop := regexGroupUptoRow.holds Try.pinned (OpenSpec.upto regexGroupSpec)

/-- 'scribelaw09.RegexSigns', WHERE WHAT IT READS IS OF BULK AT MOST 1048576: true; the input reads as it did. -/
def regexSignsUptoRow : OpenClaim := { program := "ytdjnjhmmpjbbaaa", sum := "d988aefbaca4fb4c7d8eb6eaf2580bad1a8aaa8346d45968cabe883d39f0b8a2", func := "scribe/scribelaw09.RegexSigns", spec := "regexSigns", recurses := true, apart := false, narrowed := true }
def RegexSignsUptoSaid : Prop := regexSignsUptoRow.holds Try.pinned (OpenSpec.upto regexSignsSpec)

/-- 'scribelaw09.RegexSets', WHERE WHAT IT READS IS OF BULK AT MOST 1048576: true; the input reads as it did. -/
def regexSetsUptoRow : OpenClaim := { program := "ytdjnjhmmpjbbaaa", sum := "d988aefbaca4fb4c7d8eb6eaf2580bad1a8aaa8346d45968cabe883d39f0b8a2", func := "scribe/scribelaw09.RegexSets", spec := "regexSets", recurses := true, apart := false, narrowed := true }
def RegexSetsUptoSaid : Prop := regexSetsUptoRow.holds Try.pinned (OpenSpec.upto regexSetsSpec)

end Rows
end Go.Proofs.Ytdjnjhmmpjbbaaa
