/- AstPrints: trees that print the same are the same: in plain Lean. -/
import Derived.Test.YtgkojnpbgkglgaaDoorPuAsT
import Derived.Test.YtgkojnpbgkglgaaDoorPr6
set_option linter.unusedVariables false
namespace Go.Proofs.YtgkojnpbgkglgaaDoor.Pr
open Go Go.RowKit Go.Proofs.YtgkojnpbgkglgaaDoorW.PrintWords Go.Proofs.YtgkojnpbgkglgaaDoorW.PrintLast Go.Proofs.YtgkojnpbgkglgaaDoorW.PrintMore

theorem AstPrints_ev (l0 l1 : List APart) : Ev (fun k => scribelaw12_AstPrints.f k l0 l1) true := by
  unfold scribelaw12_AstPrints.f
  have hs0 := treeP_size l0
  have hs1 := treeP_size l1
  have h0 := letters_ev (treeP l0) (by omega) (okOp_of (treeP_ok l0))
  have h1 := letters_ev (treeP l1) (by omega) (okOp_of (treeP_ok l1))
  refine Ev.bindc awake12_ev (Ev.pos rfl (Ev.bind' (Grow_ev l0) (Ev.bind' (Grow_ev l1) ?_)))
  have yes : Ev (fun k => scribelaw12_AstPrints.j0 k true (treeP l0).f0 (treeP l0).f1 (treeP l0).f2 (treeP l0).f3 (treeP l1).f0 (treeP l1).f1 (treeP l1).f2 (treeP l1).f3) true := by
    refine Ev.succ ?_
    simp only [scribelaw12_AstPrints.j0]
    exact Ev.pos (by simp) (Ev.bindc awake12_ev (Ev.now _))
  by_cases hl0 : lowT (treeP l0)
  · rw [if_pos hl0] at h0
    refine Ev.bindc h0 (Ev.pos rfl ?_)
    by_cases hl1 : lowT (treeP l1)
    · rw [if_pos hl1] at h1
      refine Ev.bindc h1 ?_
      refine Ev.succ ?_
      simp only [scribelaw12_AstPrints.j0]
      refine Ev.neg (by simp) (Ev.bindc awake12_ev (Ev.pos rfl (Ev.bindc (print_ev _ (treeP_print l0)) (Ev.bindc (print_ev _ (treeP_print l1)) (Ev.bindc (same_ev _ _) ?_)))))
      rw [B_toList, B_toList, print_same _ _ hl0 hl1]
      exact Ev.now _
    · rw [if_neg hl1] at h1
      exact Ev.bindc h1 yes
  · rw [if_neg hl0] at h0
    exact Ev.bindc h0 (Ev.neg (by decide) yes)
end Go.Proofs.YtgkojnpbgkglgaaDoor.Pr
