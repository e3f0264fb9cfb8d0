/- cell: a value as a number. -/
import Derived.Test.YtmhhklenaadobaaDoorPuCell
import Derived.Test.YtmhhklenaadobaaDoorPr16
namespace Go.Proofs.YtmhhklenaadobaaDoor.Pr
open Go Go.RowKit Go.Proofs.YtmhhklenaadobaaDoorW.PrintWords Go.Proofs.YtmhhklenaadobaaDoorW.PrintLast Go.Proofs.YtmhhklenaadobaaDoorW.PrintMore

theorem num_ev (kd n : Int) (l : List UInt8) (hl : l.length ≤ 1000000) : Ev (fun k => cell_Cell_Num.f k kd n (B l)) (numS kd n l) := by
  unfold cell_Cell_Num.f numS
  by_cases h : kd = 2
  · rw [if_pos h]
    exact Ev.pos h (Ev.bind' (prefix_ev l hl) (Ev.const rfl))
  · rw [if_neg h]; exact Ev.neg h (Ev.now _)

end Go.Proofs.YtmhhklenaadobaaDoor.Pr
