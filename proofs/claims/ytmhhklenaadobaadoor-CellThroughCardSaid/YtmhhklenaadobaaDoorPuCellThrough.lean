/- A number that is made a text is that number again: the pure statement. -/
import Derived.Test.YtmhhklenaadobaaDoorPuCellT
import Derived.Test.YtmhhklenaadobaaDoorPr16
import Derived.Test.YtmhhklenaadobaaDoorPr17
namespace Go.Proofs.YtmhhklenaadobaaDoor.Pr
open Go Go.RowKit Go.Proofs.YtmhhklenaadobaaDoorW.PrintWords Go.Proofs.YtmhhklenaadobaaDoorW.PrintLast Go.Proofs.YtmhhklenaadobaaDoorW.PrintMore

theorem num_ev (kd n : Int) (l : List UInt8) (hl : l.length ≤ 1000000) : Ev (fun k => cell_Cell_Num.f k kd n (B l)) (numS kd n l) := by
  unfold cell_Cell_Num.f numS
  by_cases h : kd = 2
  · rw [if_pos h]
    exact Ev.pos h (Ev.bind' (prefix_ev l hl) (Ev.const rfl))
  · rw [if_neg h]; exact Ev.neg h (Ev.now _)
theorem input_good (l : List UInt8) : goodB (inputS l).1 (inputS l).2.1 (inputS l).2.2 = true := by
  unfold inputS
  by_cases h : (looksS l).2 = true
  · simp only [if_pos h]
    unfold goodB
    simp [h]
  · simp only [if_neg h]
    rfl
theorem input_str (l : List UInt8) : strS (inputS l).1 (inputS l).2.1 (inputS l).2.2 = l := by
  unfold inputS
  by_cases h : (looksS l).2 = true
  · simp only [if_pos h]; rfl
  · simp only [if_neg h]; rfl
theorem input_list (l : List UInt8) : (inputS l).2.2 = l := by
  unfold inputS
  by_cases h : (looksS l).2 = true
  · simp only [if_pos h]
  · simp only [if_neg h]
theorem CellThrough_ev (kd n : Int) (s : ByteArray) (_w0 : (Lit.int .i64 kd).wf = true) (_w1 : (Lit.int .i64 n).wf = true) (_w2 : s.size ≤ 140737488351232) :
    Ev (fun k => scribelaw06_CellThrough.f k kd n s) true := by
  unfold scribelaw06_CellThrough.f
  obtain ⟨l, hl, hc⟩ := ccut kd n s
  refine Ev.bindc hc (Ev.bind' (good_ev kd n l (by omega)) ?_)
  by_cases g' : ¬ goodB kd n l = true
  · exact Ev.neg g' (Ev.bind' (f := fun _ t => some t) cawake_ev (Ev.now _))
  have g : goodB kd n l = true := Classical.not_not.1 g'
  have hf := good_one g
  have hsl : (strS kd n l).length ≤ 100 := by
    unfold strS
    split
    · rename_i h1; have := ctext_le n (hf h1); omega
    · exact hl
  generalize hS : strS kd n l = S at *
  have hstr := str_ev kd n l hf
  rw [hS] at hstr
  have hg := input_good S
  have hi := input_str S
  have hil := input_list S
  have go : Ev (fun k => scribelaw06_CellThrough.j0 k false kd n (B l) 2 0 (B S) (inputS S).1 (inputS S).2.1 (B (inputS S).2.2)) true := by
    refine Ev.succ ?_
    simp only [scribelaw06_CellThrough.j0]
    refine Ev.neg (by simp) (Ev.bind' cawake_ev (Ev.pos rfl (Ev.bind' (str_ev 2 0 S (by omega)) (Ev.bind' hstr (Ev.pos rfl ?_)))))
    refine Ev.bind' (good_ev 2 0 S (by omega)) (Ev.pos rfl (Ev.bind' (good_ev _ _ _ (by rw [hil]; omega)) (Ev.pos hg ?_)))
    refine Ev.bind' (str_ev _ _ _ (good_one hg)) (Ev.bind' hstr (Ev.const ?_))
    rw [hi]; simp
  refine Ev.pos g (Ev.bind' hstr (Ev.bindc rfl (Ev.bind' hstr (Ev.bind' (input_ev S (by omega)) ?_))))
  by_cases h1 : kd = 1
  · refine Ev.pos h1 (Ev.bind' (num_ev 2 0 S (by omega)) ?_)
    have fn := hf h1
    have eS : S = textS n := by rw [← hS]; unfold strS; rw [if_pos h1]
    have hp := prefix_text n fn.1 fn.2 [] [] (by simp) (fun c r' h => by cases h)
    simp only [List.nil_append, List.append_nil] at hp
    have hin : inputS S = (3, n, S) := by rw [eS]; exact input_text n fn
    refine Ev.pos ?_ ?_
    · show (prefixS S).1 = n
      rw [eS, hp]
    rw [hin] at go ⊢
    refine Ev.pos rfl (Ev.pos rfl (Ev.bind' (compare_ev 3 n S kd n l (by omega) hf) ?_))
    have e0 : cmpS 3 n S kd n l = 0 := by
      unfold cmpS
      rw [if_neg (by omega)]
      unfold cmpI; simp
    rw [e0]
    exact go
  · exact Ev.neg h1 go

end Go.Proofs.YtmhhklenaadobaaDoor.Pr
