-- From the words that print.sh lays, cut by wip/tools/trim.py to what this claim's texts use.
import Derived.Test.YtcbocfgiegdhmaaDoorWTab
/-! ### 56. Four, five, six operations that may come up next, in any order -/
namespace Go.Proofs.YtcbocfgiegdhmaaDoorW.PrintLast
section
variable {P : Program} {ops : Array Oper} {Q : Exit → Act → World → Prop} {md : Region.Mode} {S : World → Prop} {ds : List Nat} {T : Bool × List (List Nat × List Nat)}
end
end Go.Proofs.YtcbocfgiegdhmaaDoorW.PrintLast
