/- Values are made of texts and numbers: the pure statement. -/
import Derived.Test.YtmhhklenaadobaaDoorPuCell
import Derived.Test.YtmhhklenaadobaaDoorPuL
import Derived.Test.YtmhhklenaadobaaDoorPuJi
import Derived.DataShut
import Derived.Test.YtmhhklenaadobaaDoorPr8
import Derived.Test.YtmhhklenaadobaaDoorPr18
import Derived.Test.YtmhhklenaadobaaDoorPr21
import Derived.Test.YtmhhklenaadobaaDoorPr28
import Derived.Test.YtmhhklenaadobaaDoorPr29
namespace Go.Proofs.YtmhhklenaadobaaDoor.Pr
open Go Go.RowKit Go.Proofs.YtmhhklenaadobaaDoorW.PrintWords Go.Proofs.YtmhhklenaadobaaDoorW.PrintLast Go.Proofs.YtmhhklenaadobaaDoorW.PrintMore

theorem refInput_ev (l : List UInt8) (hl : l.length ≤ 1000000) : Ev (fun k => scriberef06_Input.f k (B l)) ((inputS l).1, (inputS l).2.1, B (inputS l).2.2) := by
  unfold scriberef06_Input.f
  refine Ev.bind' (refLooks_ev l hl) ?_
  by_cases h : (looksS l).2 = true
  · refine Ev.pos h ?_
    unfold inputS
    simp only [if_pos h]
    exact Ev.now _
  · refine Ev.neg h (Ev.const ?_)
    unfold inputS
    simp only [if_neg h]
theorem CellMakes_ev (s : ByteArray) (n m : Int) (is : Bool) (_w0 : s.size ≤ 140737488351232) (_w1 : (Lit.int .i64 n).wf = true) (w2 : (Lit.int .i64 m).wf = true) :
    Ev (fun k => scribelaw06_CellMakes.f k s n m is) true := by
  have hm := (Lit.wf_int_iff .i64 m).1 w2
  rw [show IntKind.i64.min = -9223372036854775808 by decide, show IntKind.i64.max = 9223372036854775807 by decide] at hm
  unfold scribelaw06_CellMakes.f
  obtain ⟨l, hl, hc⟩ := cut_some s 100 (by omega)
  refine Ev.bindc hc ?_
  have asleep : Ev (fun k => scribelaw06_CellMakes.j0 k (B l) n m is true) true := by
    refine Ev.succ ?_
    simp only [scribelaw06_CellMakes.j0]
    exact Ev.pos (by simp) (Ev.bind' (f := fun _ t => some t) cawake_ev (Ev.now _))
  have last : Ev (fun k => scribelaw06_CellMakes.j1 k (B l) n m is 1 (if is = true then 1000000 else 0) (⟨#[]⟩ : ByteArray)) true := by
    refine Ev.succ ?_
    simp only [scribelaw06_CellMakes.j1]
    refine Ev.bind' cawake_ev (Ev.pos rfl (Ev.bind' (input_ev l (by omega)) (Ev.bindc rfl (Ev.bind' (refInput_ev l (by omega)) (Ev.pos (by simp) ?_)))))
    refine Ev.bindc rfl (Ev.bindc rfl (Ev.pos (by simp) (Ev.bindc rfl (Ev.bindc rfl (Ev.pos ?_ ?_)))))
    · rw [show (⟨#[]⟩ : ByteArray) = B [] from rfl, B_toList]; simp
    have hb : cell_Bool.f is = some (1, (if is = true then 1000000 else 0), (⟨#[]⟩ : ByteArray)) := by
      unfold cell_Bool.f cell_Of.f
      cases is <;> rfl
    refine Ev.bindc hb (Ev.bindc rfl (Ev.pos (by simp) ?_))
    have hi : Ev (fun k => cell_Int.f k m) (1, near (m * 1000000), (⟨#[]⟩ : ByteArray)) := by
      unfold cell_Int.f
      exact Ev.bind' (int_ev m hm.1 hm.2) (Ev.const rfl)
    refine Ev.bind' hi (Ev.bindc rfl (Ev.bind' (int_ev m hm.1 hm.2) (Ev.const ?_)))
    rw [show (⟨#[]⟩ : ByteArray) = B [] from rfl, B_toList]; simp
  by_cases n1 : n < -4611686018427387903
  · exact Ev.pos n1 asleep
  refine Ev.neg n1 ?_
  by_cases n2 : n > 4611686018427387903
  · rw [decide_eq_true n2]; exact asleep
  rw [decide_eq_false n2]
  refine Ev.succ ?_
  simp only [scribelaw06_CellMakes.j0]
  refine Ev.neg (by simp) ?_
  cases is with
  | true => exact Ev.pos rfl last
  | false => exact Ev.neg (by simp) last

end Go.Proofs.YtmhhklenaadobaaDoor.Pr
