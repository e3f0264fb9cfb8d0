/- cell: what a value is, as plain lists and integers. -/
import Derived.Test.YtmobbclpfbkkkaaDoorPuJ0
import Derived.Test.YtmobbclpfbkkkaaDoorPuCut
import Derived.Test.YtmobbclpfbkkkaaDoorPr4
import Derived.Test.YtmobbclpfbkkkaaDoorPr15
import Derived.Test.YtmobbclpfbkkkaaDoorPr16
namespace Go.Proofs.YtmobbclpfbkkkaaDoor.Pr
open Go Go.RowKit Go.Proofs.YtmobbclpfbkkkaaDoorW.PrintWords Go.Proofs.YtmobbclpfbkkkaaDoorW.PrintLast Go.Proofs.YtmobbclpfbkkkaaDoorW.PrintMore

def inputS (l : List UInt8) : Int × Int × List UInt8 := if (looksS l).2 = true then (3, (looksS l).1, l) else (2, 0, l)
def goodB (k n : Int) (l : List UInt8) : Bool :=
  if k = 0 then (n == 0) && (l == []) else if k = 1 then (l == []) && (decide (-4611686018427387903 ≤ n) && decide (n ≤ 4611686018427387903))
  else if k = 2 then n == 0 else if k = 3 then (looksS l).2 && ((looksS l).1 == n) else false
def strS (k n : Int) (l : List UInt8) : List UInt8 := if k = 1 then textS n else l
def numS (k n : Int) (l : List UInt8) : Int := if k = 2 then (prefixS l).1 else n
def trueS (k n : Int) (l : List UInt8) : Bool := if k = 2 then l != [] else n != 0
theorem input_ev (l : List UInt8) (hl : l.length ≤ 1000000) : Ev (fun k => cell_Input.f k (B l)) ((inputS l).1, (inputS l).2.1, B (inputS l).2.2) := by
  unfold cell_Input.f
  refine Ev.bind' (looks_ev l hl) ?_
  by_cases h : (looksS l).2 = true
  · refine Ev.pos h ?_
    unfold inputS
    simp only [if_pos h]
    exact Ev.now _
  · refine Ev.neg h (Ev.const ?_)
    unfold inputS
    simp only [if_neg h]
    rfl
theorem good_ev (kd n : Int) (l : List UInt8) (hl : l.length ≤ 1000000) : Ev (fun k => cell_Good.f k kd n (B l)) (goodB kd n l) := by
  unfold cell_Good.f goodB
  simp only [B_toList]
  by_cases h0 : kd = 0
  · refine Ev.pos h0 (Ev.const ?_)
    rw [if_pos h0, h0]; rfl
  · refine Ev.neg h0 ?_
    rw [if_neg h0]
    by_cases h1 : kd = 1
    · refine Ev.pos h1 ?_
      rw [if_pos h1]
      by_cases hs : l = []
      · refine Ev.pos hs ?_
        rw [hs]
        by_cases hm : n ≥ -4611686018427387903
        · refine Ev.pos hm (Ev.const ?_)
          rw [decide_eq_true (show -4611686018427387903 ≤ n from hm)]; rfl
        · refine Ev.neg hm (Ev.const ?_)
          rw [decide_eq_false (show ¬ -4611686018427387903 ≤ n from hm)]; rfl
      · refine Ev.neg hs (Ev.const ?_)
        rw [show (l == []) = false by simpa using hs]; rfl
    · refine Ev.neg h1 ?_
      rw [if_neg h1]
      by_cases h2 : kd = 2
      · refine Ev.pos h2 (Ev.const ?_)
        rw [if_pos h2]
      · refine Ev.neg h2 ?_
        rw [if_neg h2]
        by_cases h3 : kd = 3
        · refine Ev.pos h3 ?_
          rw [if_pos h3]
          refine Ev.bind' (input_ev l hl) (Ev.const ?_)
          unfold inputS
          cases hx : (looksS l).2 with
          | true =>
            simp only [if_true, B_toList, h3, beq_self_eq_true, Bool.true_and, Bool.and_true]
            rw [Bool.beq_comm]
          | false => simp [h3]
        · exact Ev.neg h3 (Ev.const (by rw [if_neg h3]))
theorem good_one {kd n : Int} {l : List UInt8} (h : goodB kd n l = true) : kd = 1 → fitI n := by
  intro h1
  unfold goodB at h
  rw [if_neg (by omega), if_pos h1] at h
  simp only [Bool.and_eq_true, decide_eq_true_eq] at h
  exact h.2
theorem str_ev (kd n : Int) (l : List UInt8) (h : kd = 1 → fitI n) : Ev (fun k => cell_Cell_Str.f k kd n (B l)) (B (strS kd n l)) := by
  unfold cell_Cell_Str.f strS
  by_cases h1 : kd = 1
  · rw [if_pos h1]
    exact Ev.pos h1 (Ev.bind' (f := fun _ t => some t) (text_ev n (h h1).1 (h h1).2) (Ev.now _))
  · rw [if_neg h1]; exact Ev.neg h1 (Ev.now _)

end Go.Proofs.YtmobbclpfbkkkaaDoor.Pr
