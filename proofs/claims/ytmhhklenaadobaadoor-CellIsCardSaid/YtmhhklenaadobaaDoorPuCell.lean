/- cell: values xs plain lists and integers. -/
import Derived.Test.YtmhhklenaadobaaDoorPuJ0
import Derived.Test.YtmhhklenaadobaaDoorPuCut
import Derived.Lib.Bytealg
import Derived.Test.YtmhhklenaadobaaDoorPr5
import Derived.Test.YtmhhklenaadobaaDoorPr6
import Derived.Test.YtmhhklenaadobaaDoorPr7
import Derived.Test.YtmhhklenaadobaaDoorPr8
import Derived.Test.YtmhhklenaadobaaDoorPr10
import Derived.Test.YtmhhklenaadobaaDoorPr11
import Derived.Test.YtmhhklenaadobaaDoorPr13
namespace Go.Proofs.YtmhhklenaadobaaDoor.Pr
open Go Go.RowKit Go.Proofs.YtmhhklenaadobaaDoorW.PrintWords Go.Proofs.YtmhhklenaadobaaDoorW.PrintLast Go.Proofs.YtmhhklenaadobaaDoorW.PrintMore

def inputS (l : List UInt8) : Int × Int × List UInt8 := if (looksS l).2 = true then (3, (looksS l).1, l) else (2, 0, l)
def goodB (k n : Int) (l : List UInt8) : Bool :=
  if k = 0 then (n == 0) && (l == []) else if k = 1 then (l == []) && (decide (-4611686018427387903 ≤ n) && decide (n ≤ 4611686018427387903))
  else if k = 2 then n == 0 else if k = 3 then (looksS l).2 && ((looksS l).1 == n) else false
def strS (k n : Int) (l : List UInt8) : List UInt8 := if k = 1 then textS n else l
def numS (k n : Int) (l : List UInt8) : Int := if k = 2 then (prefixS l).1 else n
def trueS (k n : Int) (l : List UInt8) : Bool := if k = 2 then l != [] else n != 0
def cmpI (a b : Int) : Int := if a < b then -1 else if b < a then 1 else 0
def cmpS (k n : Int) (l : List UInt8) (k' n' : Int) (l' : List UInt8) : Int :=
  if k = 2 ∨ k' = 2 then Lib.compareBytes (strS k n l) (strS k' n' l') else cmpI n n'

theorem input_ev (l : List UInt8) (hl : l.length ≤ 1000000) : Ev (fun k => cell_Input.f k (B l)) ((inputS l).1, (inputS l).2.1, B (inputS l).2.2) := by
  unfold cell_Input.f
  refine Ev.bind' (looks_ev l hl) ?_
  by_cases h : (looksS l).2 = true
  · refine Ev.pos h ?_
    unfold inputS
    simp only [if_pos h]
    exact Ev.now _
  · refine Ev.neg h (Ev.const ?_)
    unfold inputS
    simp only [if_neg h]
    rfl
theorem good_ev (kd n : Int) (l : List UInt8) (hl : l.length ≤ 1000000) : Ev (fun k => cell_Good.f k kd n (B l)) (goodB kd n l) := by
  unfold cell_Good.f goodB
  simp only [B_toList]
  by_cases h0 : kd = 0
  · refine Ev.pos h0 (Ev.const ?_)
    rw [if_pos h0, h0]; rfl
  · refine Ev.neg h0 ?_
    rw [if_neg h0]
    by_cases h1 : kd = 1
    · refine Ev.pos h1 ?_
      rw [if_pos h1]
      by_cases hs : l = []
      · refine Ev.pos hs ?_
        rw [hs]
        by_cases hm : n ≥ -4611686018427387903
        · refine Ev.pos hm (Ev.const ?_)
          rw [decide_eq_true (show -4611686018427387903 ≤ n from hm)]; rfl
        · refine Ev.neg hm (Ev.const ?_)
          rw [decide_eq_false (show ¬ -4611686018427387903 ≤ n from hm)]; rfl
      · refine Ev.neg hs (Ev.const ?_)
        rw [show (l == []) = false by simpa using hs]; rfl
    · refine Ev.neg h1 ?_
      rw [if_neg h1]
      by_cases h2 : kd = 2
      · refine Ev.pos h2 (Ev.const ?_)
        rw [if_pos h2]
      · refine Ev.neg h2 ?_
        rw [if_neg h2]
        by_cases h3 : kd = 3
        · refine Ev.pos h3 ?_
          rw [if_pos h3]
          refine Ev.bind' (input_ev l hl) (Ev.const ?_)
          unfold inputS
          cases hx : (looksS l).2 with
          | true =>
            simp only [if_true, B_toList, h3, beq_self_eq_true, Bool.true_and, Bool.and_true]
            rw [Bool.beq_comm]
          | false => simp [h3]
        · exact Ev.neg h3 (Ev.const (by rw [if_neg h3]))
theorem good_one {kd n : Int} {l : List UInt8} (h : goodB kd n l = true) : kd = 1 → fitI n := by
  intro h1
  unfold goodB at h
  rw [if_neg (by omega), if_pos h1] at h
  simp only [Bool.and_eq_true, decide_eq_true_eq] at h
  exact h.2
theorem str_ev (kd n : Int) (l : List UInt8) (h : kd = 1 → fitI n) : Ev (fun k => cell_Cell_Str.f k kd n (B l)) (B (strS kd n l)) := by
  unfold cell_Cell_Str.f strS
  by_cases h1 : kd = 1
  · rw [if_pos h1]
    exact Ev.pos h1 (Ev.bind' (f := fun _ t => some t) (text_ev n (h h1).1 (h h1).2) (Ev.now _))
  · rw [if_neg h1]; exact Ev.neg h1 (Ev.now _)
theorem cmp33 (a b : Int) : num_Num_33.f a b = some (cmpI a b) := by
  unfold num_Num_33.f num_Num_45.f cmpI
  simp only [Option.bind_some, bne_self_eq_false, Bool.false_eq_true, if_false]
  split
  · rfl
  · split <;> rfl
theorem compare_ev (k1 n1 : Int) (l1 : List UInt8) (k2 n2 : Int) (l2 : List UInt8) (h1 : k1 = 1 → fitI n1) (h2 : k2 = 1 → fitI n2) :
    Ev (fun k => cell_Compare.f k k1 n1 (B l1) k2 n2 (B l2)) (cmpS k1 n1 l1 k2 n2 l2) := by
  unfold cell_Compare.f cmpS
  have go : ∀ b : Bool, Ev (fun k => cell_Compare.j0 k b k1 n1 (B l1) k2 n2 (B l2)) (if b = true then Lib.compareBytes (strS k1 n1 l1) (strS k2 n2 l2) else cmpI n1 n2) := by
    intro b
    refine Ev.succ ?_
    simp only [cell_Compare.j0]
    cases b with
    | true =>
      refine Ev.pos rfl (Ev.bind' (str_ev k1 n1 l1 h1) (Ev.bind' (str_ev k2 n2 l2 h2) (Ev.const ?_)))
      rfl
    | false =>
      refine Ev.neg (by simp) (Ev.const ?_)
      rw [cmp33]; rfl
  by_cases ha : k1 = 2
  · refine Ev.pos ha ?_
    have := go true
    rw [if_pos rfl] at this
    rw [if_pos (Or.inl ha)]; exact this
  · refine Ev.neg ha ?_
    have := go (k2 == 2)
    by_cases hb : k2 = 2
    · rw [if_pos (by simpa using hb)] at this
      rw [if_pos (Or.inr hb)]; exact this
    · rw [if_neg (by simpa using hb)] at this
      rw [if_neg (by omega)]; exact this
theorem cawake_ev : Ev (fun k => scribelaw06_awake.f k) true := Ev.of (fun k => scribelaw06_awake.mono k) (k := 60) (by decide +kernel)

theorem cb_cons (a b : UInt8) (xs ys : List UInt8) : Lib.compareBytes (a :: xs) (b :: ys) = if a.toNat < b.toNat then -1 else if b.toNat < a.toNat then 1 else Lib.compareBytes xs ys := by
  have hab : a < b ↔ a.toNat < b.toNat := UInt8.lt_iff_toNat_lt
  have hba : b < a ↔ b.toNat < a.toNat := UInt8.lt_iff_toNat_lt
  simp only [Lib.compareBytes, hab, hba]
theorem cb_turn : ∀ a b : List UInt8, Lib.compareBytes a b = - Lib.compareBytes b a
  | [], [] => rfl
  | [], _ :: _ => rfl
  | _ :: _, [] => rfl
  | a :: xs, b :: ys => by
    rw [cb_cons, cb_cons]
    by_cases h1 : a.toNat < b.toNat
    · rw [if_pos h1, if_neg (show ¬ b.toNat < a.toNat by omega), if_pos h1]
    · rw [if_neg h1]
      by_cases h2 : b.toNat < a.toNat
      · rw [if_pos h2, if_pos h2]; rfl
      · rw [if_neg h2, if_neg h2, if_neg h1]; exact cb_turn xs ys
theorem cb_self : ∀ a : List UInt8, Lib.compareBytes a a = 0
  | [] => rfl
  | a :: xs => by
    rw [cb_cons, if_neg (Nat.lt_irrefl _), if_neg (Nat.lt_irrefl _)]; exact cb_self xs
theorem cb_three : ∀ a b : List UInt8, Lib.compareBytes a b = -1 ∨ Lib.compareBytes a b = 0 ∨ Lib.compareBytes a b = 1
  | [], [] => Or.inr (Or.inl rfl)
  | [], _ :: _ => Or.inl rfl
  | _ :: _, [] => Or.inr (Or.inr rfl)
  | a :: xs, b :: ys => by
    rw [cb_cons]
    split
    · exact Or.inl rfl
    · split
      · exact Or.inr (Or.inr rfl)
      · exact cb_three xs ys
theorem cb_trans : ∀ a b c : List UInt8, Lib.compareBytes a b ≤ 0 → Lib.compareBytes b c ≤ 0 → Lib.compareBytes a c ≤ 0
  | [], _, [], _, _ => by simp [Lib.compareBytes]
  | [], _, _ :: _, _, _ => by simp [Lib.compareBytes]
  | _ :: _, [], _, h, _ => by simp [Lib.compareBytes] at h
  | _ :: _, _ :: _, [], _, h => by simp [Lib.compareBytes] at h
  | a :: xs, b :: ys, c :: zs, h1, h2 => by
    rw [cb_cons] at h1 h2 ⊢
    by_cases x1 : a.toNat < c.toNat
    · rw [if_pos x1]; omega
    · rw [if_neg x1]
      have n1 : ¬ b.toNat < a.toNat := by
        intro hh
        rw [if_neg (show ¬ a.toNat < b.toNat by omega), if_pos hh] at h1
        omega
      have n2 : ¬ c.toNat < b.toNat := by
        intro hh
        rw [if_neg (show ¬ b.toNat < c.toNat by omega), if_pos hh] at h2
        omega
      rw [if_neg (show ¬ a.toNat < b.toNat by omega), if_neg n1] at h1
      rw [if_neg (show ¬ b.toNat < c.toNat by omega), if_neg n2] at h2
      rw [if_neg (show ¬ c.toNat < a.toNat by omega)]
      exact cb_trans xs ys zs h1 h2
theorem cmpI_turn (a b : Int) : cmpI a b = - cmpI b a := by unfold cmpI; split <;> split <;> (try split) <;> omega
theorem cmpI_three (a b : Int) : cmpI a b = -1 ∨ cmpI a b = 0 ∨ cmpI a b = 1 := by unfold cmpI; split; exact Or.inl rfl; split; exact Or.inr (Or.inr rfl); exact Or.inr (Or.inl rfl)
theorem cmpS_turn (k n : Int) (l : List UInt8) (k' n' : Int) (l' : List UInt8) : cmpS k n l k' n' l' = - cmpS k' n' l' k n l := by
  unfold cmpS
  by_cases h : k = 2 ∨ k' = 2
  · rw [if_pos h, if_pos h.symm]; exact cb_turn _ _
  · rw [if_neg h, if_neg (fun x => h x.symm)]; exact cmpI_turn _ _
theorem cmpS_three (k n : Int) (l : List UInt8) (k' n' : Int) (l' : List UInt8) : cmpS k n l k' n' l' = -1 ∨ cmpS k n l k' n' l' = 0 ∨ cmpS k n l k' n' l' = 1 := by
  unfold cmpS
  split
  · exact cb_three _ _
  · exact cmpI_three _ _
theorem cmpS_self (k n : Int) (l : List UInt8) : cmpS k n l k n l = 0 := by
  unfold cmpS
  split
  · exact cb_self _
  · unfold cmpI; simp

theorem ccut (k n : Int) (s : ByteArray) : ∃ l : List UInt8, l.length ≤ 100 ∧ scribelaw06_Cut.f k n s = some (k, n, B l) := by
  obtain ⟨l, hl, hc⟩ := cut_some s 100 (by omega)
  refine ⟨l, hl, ?_⟩
  unfold scribelaw06_Cut.f
  rw [show scribelaw01_Cut.f s 100 = some (B l) from hc]
  rfl

end Go.Proofs.YtmhhklenaadobaaDoor.Pr
