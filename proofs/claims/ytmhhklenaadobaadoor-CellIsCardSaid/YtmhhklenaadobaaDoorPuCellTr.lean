/- cell: a value as true. -/
import Derived.Test.YtmhhklenaadobaaDoorPuCell
import Derived.Test.YtmhhklenaadobaaDoorPr25
namespace Go.Proofs.YtmhhklenaadobaaDoor.Pr
open Go Go.RowKit Go.Proofs.YtmhhklenaadobaaDoorW.PrintWords Go.Proofs.YtmhhklenaadobaaDoorW.PrintLast Go.Proofs.YtmhhklenaadobaaDoorW.PrintMore

theorem true_some (kd n : Int) (l : List UInt8) : cell_Cell_True.f kd n (B l) = some (trueS kd n l) := by
  unfold cell_Cell_True.f trueS
  rw [B_toList]
  split <;> rfl

end Go.Proofs.YtmhhklenaadobaaDoor.Pr
