/- Things are written as the page says: the pure statement. -/
import Derived.Test.YtghabadccaghcaaDoorPuPkC
import Derived.Test.YtghabadccaghcaaDoorPuPkAwake
import Derived.Test.YtghabadccaghcaaDoorPr25
namespace Go.Proofs.YtghabadccaghcaaDoor.Pr
open Go Go.RowKit Go.Proofs.YtghabadccaghcaaDoorW.PrintWords Go.Proofs.YtghabadccaghcaaDoorW.PrintLast Go.Proofs.YtghabadccaghcaaDoorW.PrintMore

theorem writes_loop (l : List S28) (hl : l.length ≤ 1000) (hok : ∀ x ∈ l, okT x) (d : Nat) : ∀ (i : Nat) (s : List UInt8), i ≤ l.length → l.length - i = d → s.length ≤ 250 * i →
    Ev (fun k => scribelaw01_PackWrites.l0 k (B s) l (l.length : Int) (i : Int) (B s)) true := by
  induction d with
  | zero =>
    intro i s hi hd hs
    refine Ev.succ ?_
    simp only [scribelaw01_PackWrites.l0]
    refine Ev.neg (by omega) (Ev.bindc (a := true) rfl (Ev.pos rfl (Ev.bindc (wBytes s (by omega)) ?_)))
    simp only [beq_self_eq_true]
    exact Ev.now _
  | succ d ih =>
    intro i s hi hd hs
    have hlt : i < l.length := by omega
    have hx := hok l[i] (List.getElem_mem hlt)
    have hp := putL_len _ hx
    refine Ev.succ ?_
    simp only [scribelaw01_PackWrites.l0]
    refine Ev.pos (by omega) (Ev.pos (by omega) (Ev.pos (by omega) ?_))
    rw [rdT_get l i hlt]
    refine Ev.bind' (put_ev s l[i] hx (by omega)) ?_
    dsimp only
    rw [B_append, B_size, B_size]
    refine Ev.pos (by omega) ?_
    rw [w64 (by omega) (by omega)]
    exact ih (i + 1) _ (by omega) (by omega) (by rw [List.length_append]; omega)
theorem PackWrites_ev (l0 : List S28) (w0 : ∀ (q : Nat) (x : S28), l0[q]? = some x → (Lit.int .i64 x.f0).wf = true ∧ (Lit.int .i64 x.f1).wf = true ∧ True) : Ev (fun k => scribelaw01_PackWrites.f k l0) true := by
  unfold scribelaw01_PackWrites.f
  refine Ev.bind' (few_ev l0 40 (by omega)) ?_
  refine writes_loop _ (by rw [List.length_map, List.length_take]; omega) ?_ _ 0 [] (by omega) rfl (by simp)
  intro x hx
  obtain ⟨y, hy, rfl⟩ := List.mem_map.1 hx
  have := List.mem_of_mem_take hy
  obtain ⟨q, hq⟩ := List.mem_iff_getElem?.1 this
  have h := (w0 q y hq).2.1
  exact cutT_ok y (of_wf h)
end Go.Proofs.YtghabadccaghcaaDoor.Pr
