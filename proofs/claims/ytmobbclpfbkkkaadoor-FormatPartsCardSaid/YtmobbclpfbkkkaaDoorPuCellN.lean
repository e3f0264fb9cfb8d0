/- cell: a value as a number. -/
import Derived.Test.YtmobbclpfbkkkaaDoorPuCell0
import Derived.Test.YtmobbclpfbkkkaaDoorPr10
namespace Go.Proofs.YtmobbclpfbkkkaaDoor.Pr
open Go Go.RowKit Go.Proofs.YtmobbclpfbkkkaaDoorW.PrintWords Go.Proofs.YtmobbclpfbkkkaaDoorW.PrintLast Go.Proofs.YtmobbclpfbkkkaaDoorW.PrintMore

theorem num_ev (kd n : Int) (l : List UInt8) (hl : l.length ≤ 1000000) : Ev (fun k => cell_Cell_Num.f k kd n (B l)) (numS kd n l) := by
  unfold cell_Cell_Num.f numS
  by_cases h : kd = 2
  · rw [if_pos h]
    exact Ev.pos h (Ev.bind' (prefix_ev l hl) (Ev.const rfl))
  · rw [if_neg h]; exact Ev.neg h (Ev.now _)

end Go.Proofs.YtmobbclpfbkkkaaDoor.Pr
