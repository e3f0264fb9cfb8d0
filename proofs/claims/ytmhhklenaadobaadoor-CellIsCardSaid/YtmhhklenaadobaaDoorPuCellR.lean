/- cell: the document's reading of a text from outside. -/
import Derived.Test.YtmhhklenaadobaaDoorPuCell
import Derived.Test.YtmhhklenaadobaaDoorPuL
import Derived.Test.YtmhhklenaadobaaDoorPr21
namespace Go.Proofs.YtmhhklenaadobaaDoor.Pr
open Go Go.RowKit Go.Proofs.YtmhhklenaadobaaDoorW.PrintWords Go.Proofs.YtmhhklenaadobaaDoorW.PrintLast Go.Proofs.YtmhhklenaadobaaDoorW.PrintMore

theorem refInput_ev (l : List UInt8) (hl : l.length ≤ 1000000) : Ev (fun k => scriberef06_Input.f k (B l)) ((inputS l).1, (inputS l).2.1, B (inputS l).2.2) := by
  unfold scriberef06_Input.f
  refine Ev.bind' (refLooks_ev l hl) ?_
  by_cases h : (looksS l).2 = true
  · refine Ev.pos h ?_
    unfold inputS
    simp only [if_pos h]
    exact Ev.now _
  · refine Ev.neg h (Ev.const ?_)
    unfold inputS
    simp only [if_neg h]

end Go.Proofs.YtmhhklenaadobaaDoor.Pr
