/- Held against one another the other way about: the pure statement. -/
import Derived.Test.YtmhhklenaadobaaDoorPuCell
import Derived.Test.YtmhhklenaadobaaDoorPr13
import Derived.Test.YtmhhklenaadobaaDoorPr14
namespace Go.Proofs.YtmhhklenaadobaaDoor.Pr
open Go Go.RowKit Go.Proofs.YtmhhklenaadobaaDoorW.PrintWords Go.Proofs.YtmhhklenaadobaaDoorW.PrintLast Go.Proofs.YtmhhklenaadobaaDoorW.PrintMore

theorem CellTurns_ev (k1 n1 : Int) (s1 : ByteArray) (k2 n2 : Int) (s2 : ByteArray) (_w0 : (Lit.int .i64 k1).wf = true) (_w1 : (Lit.int .i64 n1).wf = true) (_w2 : s1.size ≤ 140737488351232)
    (_w3 : (Lit.int .i64 k2).wf = true) (_w4 : (Lit.int .i64 n2).wf = true) (_w5 : s2.size ≤ 140737488351232) : Ev (fun k => scribelaw06_CellTurns.f k k1 n1 s1 k2 n2 s2) true := by
  unfold scribelaw06_CellTurns.f
  obtain ⟨l1, hl1, hc1⟩ := ccut k1 n1 s1
  obtain ⟨l2, hl2, hc2⟩ := ccut k2 n2 s2
  refine Ev.bindc hc1 (Ev.bindc hc2 (Ev.bind' (good_ev k1 n1 l1 (by omega)) ?_))
  have asleep : Ev (fun k => scribelaw06_CellTurns.j0 k true k1 n1 (B l1) k2 n2 (B l2)) true := by
    refine Ev.succ ?_
    simp only [scribelaw06_CellTurns.j0]
    exact Ev.pos (by simp) (Ev.bind' (f := fun _ t => some t) cawake_ev (Ev.now _))
  by_cases g1 : goodB k1 n1 l1 = true
  · refine Ev.pos g1 (Ev.bind' (good_ev k2 n2 l2 (by omega)) ?_)
    by_cases g2 : goodB k2 n2 l2 = true
    · rw [g2]
      refine Ev.succ ?_
      simp only [scribelaw06_CellTurns.j0]
      refine Ev.neg (by simp) (Ev.bind' cawake_ev (Ev.pos rfl ?_))
      refine Ev.bind' (compare_ev k1 n1 l1 k2 n2 l2 (good_one g1) (good_one g2)) (Ev.bind' (compare_ev k2 n2 l2 k1 n1 l1 (good_one g2) (good_one g1)) ?_)
      refine Ev.pos ?_ (Ev.bind' (compare_ev k1 n1 l1 k1 n1 l1 (good_one g1) (good_one g1)) (Ev.const ?_))
      · rw [cmpS_turn k1 n1 l1 k2 n2 l2]
        rcases cmpS_three k2 n2 l2 k1 n1 l1 with h | h | h <;> rw [h, w64 (by omega) (by omega)]
      · rw [cmpS_self]; rfl
    · rw [show goodB k2 n2 l2 = false by simpa using g2]
      exact asleep
  · exact Ev.neg g1 asleep

end Go.Proofs.YtmhhklenaadobaaDoor.Pr
