/- Products turn about: the pure statement. -/
import Derived.Test.YtcbocfgiegdhmaaDoorPuE
import Derived.Test.YtcbocfgiegdhmaaDoorPr6
namespace Go.Proofs.YtcbocfgiegdhmaaDoor.Pr
open Go Go.RowKit Go.Proofs.YtcbocfgiegdhmaaDoorW.PrintWords Go.Proofs.YtcbocfgiegdhmaaDoorW.PrintLast Go.Proofs.YtcbocfgiegdhmaaDoorW.PrintMore

theorem mulS_comm (a b : Int) : mulS a b = mulS b a := by
  unfold mulS parted
  rw [Nat.mul_comm, show (decide (a < 0) != decide (b < 0)) = (decide (b < 0) != decide (a < 0)) by cases decide (a < 0) <;> cases decide (b < 0) <;> rfl]
theorem mulS_one (a : Int) (ha : fitI a) : mulS a 1000000 = a := by
  unfold fitI at ha
  unfold mulS parted clampS
  rw [show (1000000 : Int).natAbs = 1000000 from rfl, Nat.mul_div_cancel _ (by omega)]
  by_cases h : a < 0
  · simp only [h, decide_true, show decide ((1000000 : Int) < 0) = false from rfl]
    simp only [Bool.bne_false, if_true]
    split <;> omega
  · simp only [h, decide_false, show decide ((1000000 : Int) < 0) = false from rfl]
    simp only [bne_self_eq_false, Bool.false_eq_true, if_false]
    split <;> omega
theorem mulS_zero (a : Int) : mulS a 0 = 0 := by
  unfold mulS clampS
  simp
theorem mulS_neg (a b : Int) : mulS (-a) b = -(mulS a b) := by
  unfold mulS
  rw [Int.natAbs_neg]
  by_cases h : a = 0
  · subst h; simp [clampS]
  · have : parted (-a) b = !(parted a b) := by
      unfold parted
      by_cases h1 : a < 0
      · rw [show decide (-a < 0) = false by simp; omega, show decide (a < 0) = true by simp; omega]; cases decide (b < 0) <;> rfl
      · rw [show decide (-a < 0) = true by simp; omega, show decide (a < 0) = false by simp; omega]; cases decide (b < 0) <;> rfl
    rw [this]
    unfold clampS
    cases parted a b <;> simp
theorem mulS_pos (a b : Int) (h : 0 < mulS a b) : parted a b = false := by
  unfold mulS clampS at h
  cases hp : parted a b with
  | false => rfl
  | true =>
    rw [hp] at h
    simp only [if_true] at h
    split at h <;> omega

theorem NumProducts_ev (a b : Int) (_w0 : (Lit.int .i64 a).wf = true) (_w1 : (Lit.int .i64 b).wf = true) : Ev (fun k => scribelaw05_NumProducts.f k a b) true := by
  unfold scribelaw05_NumProducts.f
  by_cases ha : fitI a
  · refine Ev.bindc (fit_yes a ha) (Ev.pos rfl ?_)
    by_cases hb : fitI b
    · refine Ev.bindc (fit_yes b hb) (Ev.succ ?_)
      simp only [scribelaw05_NumProducts.j0]
      refine Ev.neg (by simp) ?_
      have hc : fitI (mulS a b) := fit_clampS _ _ (by omega)
      refine Ev.bind' (mul_ev a b ha hb) (Ev.bind' awake_ev (Ev.pos rfl (Ev.bind' (mul_ev b a hb ha) (Ev.pos (mulS_comm a b) ?_))))
      refine Ev.bind' (mul_ev a 1000000 ha (by unfold fitI; omega)) (Ev.pos (mulS_one a ha) ?_)
      refine Ev.bind' (mul_ev a 0 ha (by unfold fitI; omega)) (Ev.pos (mulS_zero a) ?_)
      have hn : wrap64 (-a) = -a := by unfold fitI at ha; exact w64 (by omega) (by omega)
      rw [hn]
      refine Ev.bind' (mul_ev (-a) b (by unfold fitI at ha ⊢; omega) hb) (Ev.pos ?_ ?_)
      · rw [mulS_neg]; unfold fitI at hc; rw [w64 (by omega) (by omega)]
      · by_cases h : mulS a b ≤ 0
        · exact Ev.pos h (Ev.now _)
        · refine Ev.neg h ?_
          have hp := mulS_pos a b (by omega)
          refine signs_ev a b (fun s _ => if s = true then some false else some true) true ?_
          rw [hp]
          exact Ev.const (by simp)
    · refine Ev.bindc (fit_no b hb) (Ev.succ ?_)
      simp only [scribelaw05_NumProducts.j0]
      exact Ev.pos (by simp) (Ev.bind' (f := fun _ t => some t) awake_ev (Ev.now _))
  · refine Ev.bindc (fit_no a ha) (Ev.neg (by decide) (Ev.succ ?_))
    simp only [scribelaw05_NumProducts.j0]
    exact Ev.pos (by simp) (Ev.bind' (f := fun _ t => some t) awake_ev (Ev.now _))

end Go.Proofs.YtcbocfgiegdhmaaDoor.Pr
