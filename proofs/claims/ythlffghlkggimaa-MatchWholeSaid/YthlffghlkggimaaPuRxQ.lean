/- regex: a text of literals, each behind a backslash where it needs one, is these literals one behind the other; plain Lean. -/
import Derived.Test.YthlffghlkggimaaPuRxG0
set_option linter.unusedVariables false
namespace Go.Proofs.Ythlffghlkggimaa.Pr
open Go Go.RowKit Go.Proofs.YthlffghlkggimaaW.PrintWords Go.Proofs.YthlffghlkggimaaW.PrintLast Go.Proofs.YthlffghlkggimaaW.PrintMore
def selfC (c : Int) : Bool := decide ((48 ≤ c ∧ c ≤ 57) ∨ (97 ≤ c ∧ c ≤ 122) ∨ (65 ≤ c ∧ c ≤ 90) ∨ c < 32 ∨ 126 < c)
theorem self_bad (c : Int) : selfC c = badEsc c := rfl
def quB (c : UInt8) : List UInt8 := if selfC (c.toNat : Int) = true then [c] else [92, c]
def quL : List UInt8 → List UInt8
 | [] => []
 | c :: l => quB c ++ quL l
theorem quL_app (a b : List UInt8) : quL (a ++ b) = quL a ++ quL b := by
 induction a with
 | nil => rfl
 | cons c a ih => simp [quL, ih]
theorem quL_len (l : List UInt8) : (quL l).length ≤ 2 * l.length := by
 induction l with
 | nil => simp [quL]
 | cons c l ih =>
  have : (quB c).length ≤ 2 := by unfold quB; split <;> simp
  simp [quL]; omega
def litN (c : UInt8) : RNode := ⟨1, withW zW (c.toNat : Int), []⟩
theorem quL_first (l : List UInt8) (i : Nat) (h : 0 < (quL l).length) : opOf (((quL l)[0]).toNat : Int) = none := by
 cases l with
 | nil => simp [quL] at h
 | cons c l =>
  by_cases hs : selfC (c.toNat : Int) = true
  ·have e : (quL (c :: l))[0] = c := by simp [quL, quB, hs]
   rw [e]
   have : (48 ≤ (c.toNat : Int) ∧ (c.toNat : Int) ≤ 57) ∨ (97 ≤ (c.toNat : Int) ∧ (c.toNat : Int) ≤ 122) ∨ (65 ≤ (c.toNat : Int) ∧ (c.toNat : Int) ≤ 90) ∨ (c.toNat : Int) < 32 ∨ 126 < (c.toNat : Int) := by simpa [selfC] using hs
   unfold opOf
   rw [if_neg (by omega), if_neg (by omega), if_neg (by omega)]
  ·have e : (quL (c :: l))[0] = 92 := by simp [quL, quB, hs]
   rw [e]
   rfl
theorem go_at (p : Nat) (hp : p ≤ 1000000) (d e b : Int) : St.go ⟨(p : Int), d, e, b⟩ = ⟨((p + 1 : Nat) : Int), d, e, b⟩ := by
 unfold St.go
 simp only
 rw [w64 (by omega) (by omega)]
 rfl
theorem R_lits (l : List UInt8) : ∀ (pre : List UInt8) (acc : List RNode), pre.length + (quL l).length ≤ 100000 → acc.length + l.length ≤ 100000 →
  R (B (pre ++ quL l)) (.cat acc) ⟨pre.length, 0, 0, 0⟩ (catN (acc ++ l.map litN)) ⟨((pre ++ quL l).length : Nat), 0, 0, 0⟩ := by
 induction l with
 | nil =>
  intro pre acc hp ha
  simp only [quL, List.append_nil, List.map_nil]
  exact .catEnd (nx_end (Int.le_refl _)) (.inl rfl)
 | cons c l ih =>
  intro pre acc hp ha
  have hlen : (quL (c :: l)).length = (quB c).length + (quL l).length := by simp [quL]
  have hB : pre ++ quL (c :: l) = (pre ++ quB c) ++ quL l := by simp [quL]
  rw [List.length_cons] at ha
  have key : R (B (pre ++ quL (c :: l))) .atom ⟨pre.length, 0, 0, 0⟩ (litN c) ⟨((pre ++ quB c).length : Nat), 0, 0, 0⟩ := by
   by_cases hs : selfC (c.toNat : Int) = true
   ·have hq : quB c = [c] := by unfold quB; rw [if_pos hs]
    have hs' : (48 ≤ (c.toNat : Int) ∧ (c.toNat : Int) ≤ 57) ∨ (97 ≤ (c.toNat : Int) ∧ (c.toNat : Int) ≤ 122) ∨ (65 ≤ (c.toNat : Int) ∧ (c.toNat : Int) ≤ 90) ∨ (c.toNat : Int) < 32 ∨ 126 < (c.toNat : Int) := by simpa [selfC] using hs
    have hx := nx_B (l := pre ++ quL (c :: l)) (s := ⟨pre.length, 0, 0, 0⟩) rfl pre.length rfl (by simp [quL, hq])
    have e : (pre ++ quL (c :: l))[pre.length]'(by simp [quL, hq]) = c := by simp [quL, hq]
    rw [e] at hx
    have := R.leaf hx (by omega) (Leaf.lit (s := ⟨pre.length, 0, 0, 0⟩) (t := B (pre ++ quL (c :: l))) (c := (c.toNat : Int)) (by omega) (by omega) (by omega) (by omega) (by omega) (by omega) (by omega) (by omega))
    rw [go_at _ (by omega)] at this
    rw [hq]
    simpa [litN] using this
   ·have hq : quB c = [92, c] := by unfold quB; rw [if_neg hs]
    have hb : badEsc (c.toNat : Int) = false := by rw [← self_bad]; simpa using hs
    have hs' : ¬ ((48 ≤ (c.toNat : Int) ∧ (c.toNat : Int) ≤ 57) ∨ (97 ≤ (c.toNat : Int) ∧ (c.toNat : Int) ≤ 122) ∨ (65 ≤ (c.toNat : Int) ∧ (c.toNat : Int) ≤ 90) ∨ (c.toNat : Int) < 32 ∨ 126 < (c.toNat : Int)) := by simpa [selfC] using hs
    have hx := nx_B (l := pre ++ quL (c :: l)) (s := ⟨pre.length, 0, 0, 0⟩) rfl pre.length rfl (by simp [quL, hq])
    have e : (pre ++ quL (c :: l))[pre.length]'(by simp [quL, hq]) = 92 := by simp [quL, hq]
    rw [e] at hx
    have hx2 := nx_B (l := pre ++ quL (c :: l)) (s := St.go ⟨pre.length, 0, 0, 0⟩) rfl (pre.length + 1) (by rw [go_at _ (by omega)]) (by simp [quL, hq])
    have e2 : (pre ++ quL (c :: l))[pre.length + 1]'(by simp [quL, hq]) = c := by
     rw [List.getElem_append_right (by omega)]
     simp [quL, hq]
    rw [e2] at hx2
    have hl := Leaf.esc (s := ⟨pre.length, 0, 0, 0⟩) hx2
    have hE : escF (St.go ⟨pre.length, 0, 0, 0⟩) (some (c.toNat : Int)) = ((c.toNat : Int), (St.go ⟨pre.length, 0, 0, 0⟩).go) := by
     simp only [escF]
     rw [if_neg (by omega), if_neg (by omega), hb, if_neg (by decide)]
    rw [hE] at hl
    simp only at hl
    rw [go_at _ (by omega), go_at _ (by omega)] at hl
    have := R.leaf hx (by decide) hl
    rw [hq]
    simpa [litN, show ((pre.length : Int) + 1 + 1) = (pre.length : Int) + 2 by omega] using this
  have hxc : ∃ x : Int, Nx (B (pre ++ quL (c :: l))) ⟨pre.length, 0, 0, 0⟩ (some x) ∧ x ≠ 124 ∧ x ≠ 41 := by
   by_cases hs : selfC (c.toNat : Int) = true
   ·have hq : quB c = [c] := by unfold quB; rw [if_pos hs]
    have hs' : (48 ≤ (c.toNat : Int) ∧ (c.toNat : Int) ≤ 57) ∨ (97 ≤ (c.toNat : Int) ∧ (c.toNat : Int) ≤ 122) ∨ (65 ≤ (c.toNat : Int) ∧ (c.toNat : Int) ≤ 90) ∨ (c.toNat : Int) < 32 ∨ 126 < (c.toNat : Int) := by simpa [selfC] using hs
    have hx := nx_B (l := pre ++ quL (c :: l)) (s := ⟨pre.length, 0, 0, 0⟩) rfl pre.length rfl (by simp [quL, hq])
    have e : (pre ++ quL (c :: l))[pre.length]'(by simp [quL, hq]) = c := by simp [quL, hq]
    rw [e] at hx
    exact ⟨_, hx, by omega, by omega⟩
   ·have hq : quB c = [92, c] := by unfold quB; rw [if_neg hs]
    have hx := nx_B (l := pre ++ quL (c :: l)) (s := ⟨pre.length, 0, 0, 0⟩) rfl pre.length rfl (by simp [quL, hq])
    have e : (pre ++ quL (c :: l))[pre.length]'(by simp [quL, hq]) = 92 := by simp [quL, hq]
    rw [e] at hx
    exact ⟨_, hx, by decide, by decide⟩
  obtain ⟨x, hx, h124, h41⟩ := hxc
  have hi := ih (pre ++ quB c) (acc ++ [litN c]) (by rw [List.length_append]; omega) (by rw [List.length_append, List.length_singleton]; omega)
  rw [← hB] at hi
  have hsg : R (B (pre ++ quL (c :: l))) (.signs (litN c)) ⟨((pre ++ quB c).length : Nat), 0, 0, 0⟩ (litN c) ⟨((pre ++ quB c).length : Nat), 0, 0, 0⟩ := by
   by_cases hn : (quL l).length = 0
   ·exact .signsEnd (nx_end (by rw [hB, List.length_append (bs := quL l)]; simp only; omega)) (by simp)
   ·have hx3 := nx_B (l := pre ++ quL (c :: l)) (s := ⟨((pre ++ quB c).length : Nat), 0, 0, 0⟩) rfl (pre ++ quB c).length rfl (by rw [hB, List.length_append (bs := quL l)]; omega)
    have e3 : (pre ++ quL (c :: l))[(pre ++ quB c).length]'(by rw [hB, List.length_append (bs := quL l)]; omega) = (quL l)[0]'(by omega) := by
     simp only [hB]
     rw [List.getElem_append_right (by omega)]
     simp
    rw [e3] at hx3
    refine .signsEnd hx3 (fun y hy => ?_)
    obtain rfl := Option.some.inj hy
    exact quL_first l 0 (by omega)
  have := R.catMore hx h124 h41 (by omega) key hsg hi
  rw [show acc ++ (c :: l).map litN = (acc ++ [litN c]) ++ l.map litN by simp]
  exact this
theorem quoted_parse (l : List UInt8) (hl : l.length ≤ 140) : Ev (fun k => regex_Parse.f k (B (quL l))) ((catN (l.map litN)).f0, (catN (l.map litN)).f1.f0, (catN (l.map litN)).f1.f1, (catN (l.map litN)).f1.f2, (catN (l.map litN)).f1.f3, (catN (l.map litN)).f2, 0, 0) := by
 have hq := quL_len l
 have h := R_lits l [] [] (by simp; omega) (by simp; omega)
 simp only [List.nil_append, List.length_nil] at h
 have ha : R (B (quL l)) .alt ⟨0, 0, 0, 0⟩ (catN (l.map litN)) ⟨((quL l).length : Nat), 0, 0, 0⟩ := by
  refine .alt h ?_
  exact .altEnd (o := none) (nx_end (Int.le_refl _)) (by simp)
 have := parse_ev (by rw [B_size]; omega) ha
 simpa using this
end Go.Proofs.Ythlffghlkggimaa.Pr
