-- From the words that print.sh lays, cut by wip/tools/trim.py to what this claim's texts use.
import Derived.Test.YtcbocfgiegdhmaaDoorWWords
import Derived.Laws.StructEq
/-! ### 53. '==' of structs as_ one Bool -/
namespace Go.Proofs.YtcbocfgiegdhmaaDoorW.PrintWords
open Go.RowKit
section
variable {P : Program} {d : Nat} {xs ys : Array Value} {f : Field} {fs : List Field} {a b : Value} {r s : Bool} {w : World}
end
end Go.Proofs.YtcbocfgiegdhmaaDoorW.PrintWords
