-- From the words that print.sh lays, cut by wip/tools/trim.py to what this claim's texts use.
import Derived.Test.YtcbocfgiegdhmaaDoorWInv
import Derived.Test.YtcbocfgiegdhmaaDoorWFootNe
namespace Go.Proofs.YtcbocfgiegdhmaaDoorW.PrintWords
open Go.RowKit
end Go.Proofs.YtcbocfgiegdhmaaDoorW.PrintWords
namespace Go.Proofs.YtcbocfgiegdhmaaDoorW.PrintLast
section
variable {ops : Array Oper} {a : Act} {o og : Oper} {g : Nat} {t : Tmp} {u : Bool}
end
end Go.Proofs.YtcbocfgiegdhmaaDoorW.PrintLast
