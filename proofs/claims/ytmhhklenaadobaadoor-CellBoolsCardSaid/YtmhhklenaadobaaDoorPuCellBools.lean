/- What is true is 1: the pure statement. -/
import Derived.Test.YtmhhklenaadobaaDoorPuCell
import Derived.Test.YtmhhklenaadobaaDoorPr8
import Derived.Test.YtmhhklenaadobaaDoorPr16
import Derived.Test.YtmhhklenaadobaaDoorPr25
import Derived.Test.YtmhhklenaadobaaDoorPr28
import Derived.Test.YtmhhklenaadobaaDoorPr30
namespace Go.Proofs.YtmhhklenaadobaaDoor.Pr
open Go Go.RowKit Go.Proofs.YtmhhklenaadobaaDoorW.PrintWords Go.Proofs.YtmhhklenaadobaaDoorW.PrintLast Go.Proofs.YtmhhklenaadobaaDoorW.PrintMore

theorem true_some (kd n : Int) (l : List UInt8) : cell_Cell_True.f kd n (B l) = some (trueS kd n l) := by
  unfold cell_Cell_True.f trueS
  rw [B_toList]
  split <;> rfl
def oneS (b : Bool) : Int := if b = true then 1000000 else 0
theorem bool_some (b : Bool) : cell_Bool.f b = some (1, oneS b, B []) := by
  unfold cell_Bool.f cell_Of.f
  cases b <;> rfl
theorem true_one (b : Bool) : trueS 1 (oneS b) [] = b := by cases b <;> rfl
theorem CellBools_ev (kd n : Int) (s : ByteArray) (is : Bool) (_w0 : (Lit.int .i64 kd).wf = true) (_w1 : (Lit.int .i64 n).wf = true) (_w2 : s.size ≤ 140737488351232) :
    Ev (fun k => scribelaw06_CellBools.f k kd n s is) true := by
  unfold scribelaw06_CellBools.f
  obtain ⟨l, hl, hc⟩ := ccut kd n s
  refine Ev.bindc hc (Ev.bind' (good_ev kd n l (by omega)) ?_)
  by_cases g' : ¬ goodB kd n l = true
  · exact Ev.neg g' (Ev.bind' (f := fun _ t => some t) cawake_ev (Ev.now _))
  have g : goodB kd n l = true := Classical.not_not.1 g'
  refine Ev.pos g (Ev.bindc (true_some kd n l) (Ev.bindc (bool_some _) (Ev.bind' cawake_ev (Ev.pos rfl (Ev.bindc (bool_some is) (Ev.bindc (true_some _ _ _) ?_))))))
  refine Ev.pos (by rw [true_one]; simp) (Ev.bindc (true_some _ _ _) (Ev.bindc (true_some kd n l) (Ev.pos (by rw [true_one]; simp) ?_)))
  have hn : Ev (fun k => cell_Cell_Num.f k 1 (oneS (trueS kd n l)) (B [])) (oneS (trueS kd n l)) := by
    unfold cell_Cell_Num.f
    exact Ev.neg (by omega) (Ev.now _)
  refine Ev.bind' hn (Ev.bindc (true_some kd n l) (Ev.pos (by cases trueS kd n l <;> rfl) ?_))
  by_cases h2 : kd = 2
  · exact Ev.pos h2 (Ev.now _)
  · refine Ev.neg h2 (Ev.bindc (true_some kd n l) ?_)
    have hm : Ev (fun k => cell_Cell_Num.f k kd n (B l)) n := by
      unfold cell_Cell_Num.f
      exact Ev.neg h2 (Ev.now _)
    refine Ev.bind' hm (Ev.const ?_)
    have : trueS kd n l = (n != 0) := by unfold trueS; rw [if_neg h2]
    rw [this]; simp

end Go.Proofs.YtmhhklenaadobaaDoor.Pr
