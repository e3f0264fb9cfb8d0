/- Three of one kind keep their order: the pure statement. -/
import Derived.Test.YtmhhklenaadobaaDoorPuCell
import Derived.Test.YtmhhklenaadobaaDoorPr13
import Derived.Test.YtmhhklenaadobaaDoorPr15
namespace Go.Proofs.YtmhhklenaadobaaDoor.Pr
open Go Go.RowKit Go.Proofs.YtmhhklenaadobaaDoorW.PrintWords Go.Proofs.YtmhhklenaadobaaDoorW.PrintLast Go.Proofs.YtmhhklenaadobaaDoorW.PrintMore

theorem cmpI_trans (a b c : Int) (h1 : cmpI a b ≤ 0) (h2 : cmpI b c ≤ 0) : cmpI a c ≤ 0 := by
  unfold cmpI at *
  split at h1 <;> split at h2 <;> split <;> (try split at h1) <;> (try split at h2) <;> (try split) <;> omega
theorem cmpS_trans (k n1 n2 n3 : Int) (l1 l2 l3 : List UInt8) (h1 : cmpS k n1 l1 k n2 l2 ≤ 0) (h2 : cmpS k n2 l2 k n3 l3 ≤ 0) : cmpS k n1 l1 k n3 l3 ≤ 0 := by
  unfold cmpS at *
  by_cases h : k = 2
  · rw [if_pos (Or.inl h)] at *
    exact cb_trans _ _ _ h1 h2
  · rw [if_neg (by omega)] at *
    exact cmpI_trans _ _ _ h1 h2
theorem CellOrders_ev (k1 n1 : Int) (s1 : ByteArray) (k2 n2 : Int) (s2 : ByteArray) (k3 n3 : Int) (s3 : ByteArray) (_w0 : (Lit.int .i64 k1).wf = true) (_w1 : (Lit.int .i64 n1).wf = true) (_w2 : s1.size ≤ 140737488351232)
    (_w3 : (Lit.int .i64 k2).wf = true) (_w4 : (Lit.int .i64 n2).wf = true) (_w5 : s2.size ≤ 140737488351232) (_w6 : (Lit.int .i64 k3).wf = true) (_w7 : (Lit.int .i64 n3).wf = true) (_w8 : s3.size ≤ 140737488351232) :
    Ev (fun k => scribelaw06_CellOrders.f k k1 n1 s1 k2 n2 s2 k3 n3 s3) true := by
  unfold scribelaw06_CellOrders.f
  obtain ⟨l1, hl1, hc1⟩ := ccut k1 n1 s1
  obtain ⟨l2, hl2, hc2⟩ := ccut k2 n2 s2
  obtain ⟨l3, hl3, hc3⟩ := ccut k3 n3 s3
  refine Ev.bindc hc1 (Ev.bindc hc2 (Ev.bindc hc3 (Ev.bind' (good_ev k1 n1 l1 (by omega)) ?_)))
  have asleep : Ev (fun k => scribelaw06_CellOrders.j0 k true k1 n1 (B l1) k2 n2 (B l2) k3 n3 (B l3)) true := by
    refine Ev.succ ?_
    simp only [scribelaw06_CellOrders.j0]
    exact Ev.pos (by simp) (Ev.bind' (f := fun _ t => some t) cawake_ev (Ev.now _))
  have asleep1 : Ev (fun k => scribelaw06_CellOrders.j1 k true k1 n1 (B l1) k3 n3 (B l3)) true := by
    refine Ev.succ ?_
    simp only [scribelaw06_CellOrders.j1]
    exact Ev.pos (by simp) (Ev.bind' (f := fun _ t => some t) cawake_ev (Ev.now _))
  by_cases g1 : goodB k1 n1 l1 = true
  · refine Ev.pos g1 (Ev.bind' (good_ev k2 n2 l2 (by omega)) ?_)
    by_cases g2 : goodB k2 n2 l2 = true
    · refine Ev.pos g2 (Ev.bind' (good_ev k3 n3 l3 (by omega)) ?_)
      by_cases g3 : goodB k3 n3 l3 = true
      · refine Ev.pos g3 ?_
        by_cases e12 : k1 = k2
        · refine Ev.pos e12 ?_
          by_cases e23 : k2 = k3
          · rw [show (k2 != k3) = false by simpa using e23]
            subst e12 e23
            refine Ev.succ ?_
            simp only [scribelaw06_CellOrders.j0]
            refine Ev.neg (by simp) (Ev.bind' (compare_ev k1 n1 l1 k1 n2 l2 (good_one g1) (good_one g2)) ?_)
            by_cases x1 : cmpS k1 n1 l1 k1 n2 l2 > 0
            · exact Ev.pos x1 asleep1
            · refine Ev.neg x1 (Ev.bind' (compare_ev k1 n2 l2 k1 n3 l3 (good_one g2) (good_one g3)) ?_)
              by_cases x2 : cmpS k1 n2 l2 k1 n3 l3 > 0
              · rw [decide_eq_true x2]; exact asleep1
              · rw [decide_eq_false x2]
                refine Ev.succ ?_
                simp only [scribelaw06_CellOrders.j1]
                refine Ev.neg (by simp) (Ev.bind' cawake_ev (Ev.pos rfl (Ev.bind' (compare_ev k1 n1 l1 k1 n3 l3 (good_one g1) (good_one g3)) (Ev.const ?_))))
                rw [decide_eq_true (cmpS_trans k1 n1 n2 n3 l1 l2 l3 (by omega) (by omega))]
          · rw [show (k2 != k3) = true by simpa using e23]
            exact asleep
        · exact Ev.neg e12 asleep
      · exact Ev.neg g3 asleep
    · exact Ev.neg g2 asleep
  · exact Ev.neg g1 asleep

end Go.Proofs.YtmhhklenaadobaaDoor.Pr
