/- Sums turn about: the pure statement. -/
import Derived.Test.YtcbocfgiegdhmaaDoorPuB
import Derived.Test.YtcbocfgiegdhmaaDoorPr4
namespace Go.Proofs.YtcbocfgiegdhmaaDoor.Pr
open Go.RowKit Go.Proofs.YtcbocfgiegdhmaaDoorW.PrintWords Go.Proofs.YtcbocfgiegdhmaaDoorW.PrintLast Go.Proofs.YtcbocfgiegdhmaaDoorW.PrintMore

theorem NumSums_ev (a b : Int) (_w0 : (Lit.int .i64 a).wf = true) (_w1 : (Lit.int .i64 b).wf = true) : Ev (fun k => scribelaw05_NumSums.f k a b) true := by
  unfold scribelaw05_NumSums.f
  by_cases ha : fitI a
  · refine Ev.bindc (fit_yes a ha) (Ev.pos rfl ?_)
    by_cases hb : fitI b
    · refine Ev.bindc (fit_yes b hb) (Ev.succ ?_)
      simp only [scribelaw05_NumSums.j0]
      refine Ev.neg (by simp) ?_
      refine Ev.bind' (add_ev a b ha hb) (Ev.bind' (add_ev b a hb ha) (Ev.pos (by rw [Int.add_comm]) ?_))
      refine Ev.bind' (sub_ev a b ha hb) (Ev.bind' (sub_ev b a hb ha) (Ev.pos ?_ ?_))
      · have h1 := fit_near (b - a)
        unfold fitI at h1
        rw [w64 (by omega) (by omega)]
        unfold near
        repeat' split
        all_goals omega
      · refine Ev.bind' (add_ev a 0 ha (by unfold fitI; omega)) (Ev.pos (by rw [Int.add_zero]; exact near_fit a ha) ?_)
        refine Ev.bind' (sub_ev a a ha ha) (Ev.succ ?_)
        simp only [scribelaw05_NumSums.j1]
        refine Ev.neg (by rw [Int.sub_self]; decide) ?_
        refine Ev.bind' awake_ev (Ev.pos rfl ?_)
        by_cases h1 : near (a + b) = 4611686018427387903
        · exact Ev.pos h1 (Ev.now _)
        · refine Ev.neg h1 ?_
          by_cases h2 : near (a + b) = -4611686018427387903
          · exact Ev.pos h2 (Ev.now _)
          · refine Ev.neg h2 ?_
            refine Ev.bind' (f := fun _ t => some (t == a)) (sub_ev _ b (fit_near _) hb) (Ev.const ?_)
            have e : near (a + b) = a + b := by
              unfold near at h1 h2 ⊢
              repeat' split at h1
              all_goals (repeat' split at h2)
              all_goals (repeat' split)
              all_goals omega
            rw [e, show a + b - b = a by omega, near_fit a ha]
            simp
    · refine Ev.bindc (fit_no b hb) (Ev.succ ?_)
      simp only [scribelaw05_NumSums.j0]
      exact Ev.pos (by simp) (Ev.bind' (f := fun _ t => some t) awake_ev (Ev.now _))
  · refine Ev.bindc (fit_no a ha) (Ev.neg (by decide) (Ev.succ ?_))
    simp only [scribelaw05_NumSums.j0]
    exact Ev.pos (by simp) (Ev.bind' (f := fun _ t => some t) awake_ev (Ev.now _))

end Go.Proofs.YtcbocfgiegdhmaaDoor.Pr
