/- There is one spelling: the pure statement. -/
import Derived.Test.YtghabadccaghcaaDoorPuPkR
import Derived.Test.YtghabadccaghcaaDoorPuPkC
import Derived.Test.YtghabadccaghcaaDoorPuPkAwake
import Derived.Test.YtghabadccaghcaaDoorPr22
namespace Go.Proofs.YtghabadccaghcaaDoor.Pr
open Go Go.RowKit Go.Proofs.YtghabadccaghcaaDoorW.PrintWords Go.Proofs.YtghabadccaghcaaDoorW.PrintLast Go.Proofs.YtghabadccaghcaaDoorW.PrintMore

theorem PackOne_ev (a0 : ByteArray) (_w0 : a0.size ≤ 140737488351232) : Ev (fun k => scribelaw01_PackOne.f k a0) true := by
  unfold scribelaw01_PackOne.f
  refine Ev.bindc (cut_some a0 100) ?_
  generalize hl : a0.data.toList.take 100 = l
  have hll : l.length ≤ 100 := by rw [← hl, List.length_take]; omega
  refine Ev.bindc (g := pack_Read.f (B l)) (a := (B l, 0, 0, 0)) rfl ?_
  have hI := int_ev l (by omega) 0 0 (by omega)
  rw [List.drop_zero] at hI
  refine Ev.bind' hI ?_
  dsimp only
  have hj : Ev (fun k => scribelaw01_PackOne.j0 k (B l) false) true := by
    refine Ev.succ ?_
    simp only [scribelaw01_PackOne.j0]
    refine Ev.neg (by simp) (Ev.bindc (g := pack_Read.f (B l)) (a := (B l, 0, 0, 0)) rfl ?_)
    have hT := text_ev l (by omega) 0 0 (by omega) 100 (by omega)
    rw [List.drop_zero] at hT
    refine Ev.bind' hT ?_
    dsimp only
    refine Ev.bindc (a := true) rfl (Ev.pos rfl ?_)
    by_cases he : (textS 100 l).2.2 = 0
    · obtain ⟨b1, b2, b3⟩ := text_back 100 l he
      rw [he]
      have hd := done_0 l (0 + (textS 100 l).2.1) 0
      by_cases hc : l.length ≤ 0 + (textS 100 l).2.1 ∧ (0 : Int) ≤ 0
      · rw [if_pos hc] at hd
        refine Ev.bindc hd (Ev.pos rfl (Ev.bind' (refText_ev _ (by omega)) ?_))
        rw [B_toList, B_toList, ← b1, List.take_of_length_le (by omega)]
        simp only [beq_self_eq_true]
        exact Ev.now _
      · rw [if_neg hc] at hd
        refine Ev.bindc hd ?_
        exact Ev.neg (by simp) (Ev.now _)
    · refine Ev.bindc (done_e _ _ _ _ (by omega)) (Ev.neg (by show ¬ (((textS 100 l).2.2 : Nat) : Int) = 0; omega) (Ev.now _))
  by_cases he : (intS l).2.2 = 0
  · obtain ⟨b1, b2, b3⟩ := int_back l he
    rw [he]
    have hd := done_0 l (0 + (intS l).2.1) 0
    by_cases hc : l.length ≤ 0 + (intS l).2.1 ∧ (0 : Int) ≤ 0
    · rw [if_pos hc] at hd
      refine Ev.bindc hd (Ev.pos rfl (Ev.bind' (refInt_ev _ b2) ?_))
      rw [B_toList, B_toList, ← b1, List.take_of_length_le (by omega)]
      simp only [bne_self_eq_false]
      exact hj
    · rw [if_neg hc] at hd
      refine Ev.bindc hd ?_
      exact Ev.neg (by simp) hj
  · refine Ev.bindc (done_e _ _ _ _ (by omega)) (Ev.neg (by show ¬ (((intS l).2.2 : Nat) : Int) = 0; omega) hj)
end Go.Proofs.YtghabadccaghcaaDoor.Pr
