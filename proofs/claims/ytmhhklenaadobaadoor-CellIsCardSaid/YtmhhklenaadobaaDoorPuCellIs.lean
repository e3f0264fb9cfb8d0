/- Values are numbers, texts and true as they should be: the pure statement. (refInput_ev, num_ev and true_some stand here again: the texts that hold them first are parts of other claims.) -/
import Derived.Test.YtmhhklenaadobaaDoorPuCellR
import Derived.Test.YtmhhklenaadobaaDoorPuCellN
import Derived.Test.YtmhhklenaadobaaDoorPuCellTr
import Derived.Test.YtmhhklenaadobaaDoorPuM
import Derived.Test.YtmhhklenaadobaaDoorPr18
import Derived.Test.YtmhhklenaadobaaDoorPr22
import Derived.Test.YtmhhklenaadobaaDoorPr23
import Derived.Test.YtmhhklenaadobaaDoorPr25
import Derived.Test.YtmhhklenaadobaaDoorPr26
import Derived.Test.YtmhhklenaadobaaDoorPr27
namespace Go.Proofs.YtmhhklenaadobaaDoor.Pr
open Go Go.RowKit Go.Proofs.YtmhhklenaadobaaDoorW.PrintWords Go.Proofs.YtmhhklenaadobaaDoorW.PrintLast Go.Proofs.YtmhhklenaadobaaDoorW.PrintMore

theorem refGood_ev (kd n : Int) (l : List UInt8) (hl : l.length ≤ 1000000) : Ev (fun k => scriberef06_Good.f k kd n (B l)) (goodB kd n l) := by
  unfold scriberef06_Good.f goodB
  simp only [B_toList]
  by_cases h0 : kd = 0
  · refine Ev.pos h0 ?_
    rw [if_pos h0]
    by_cases hn : n = 0
    · refine Ev.pos hn (Ev.const ?_)
      rw [hn]; rfl
    · refine Ev.neg hn (Ev.const ?_)
      rw [show (n == 0) = false by simpa using hn]; rfl
  · refine Ev.neg h0 ?_
    rw [if_neg h0]
    by_cases h1 : kd = 1
    · refine Ev.pos h1 ?_
      rw [if_pos h1]
      by_cases hs : l = []
      · refine Ev.pos hs ?_
        rw [hs]
        by_cases hm : n ≥ -4611686018427387903
        · refine Ev.pos hm (Ev.const ?_)
          rw [decide_eq_true (show -4611686018427387903 ≤ n from hm)]; rfl
        · refine Ev.neg hm (Ev.const ?_)
          rw [decide_eq_false (show ¬ -4611686018427387903 ≤ n from hm)]; rfl
      · refine Ev.neg hs (Ev.const ?_)
        rw [show (l == []) = false by simpa using hs]; rfl
    · refine Ev.neg h1 ?_
      rw [if_neg h1]
      by_cases h2 : kd = 2
      · refine Ev.pos h2 (Ev.const ?_)
        rw [if_pos h2]
      · refine Ev.neg h2 ?_
        rw [if_neg h2]
        by_cases h3 : kd = 3
        · refine Ev.pos h3 ?_
          rw [if_pos h3]
          refine Ev.bind' (refInput_ev l hl) (Ev.const ?_)
          unfold inputS
          cases hx : (looksS l).2 with
          | true => simp only [if_true, B_toList, h3, beq_self_eq_true, Bool.true_and, Bool.and_true]
          | false => simp [h3]
        · exact Ev.neg h3 (Ev.const (by rw [if_neg h3]))
theorem refNum_ev (kd n : Int) (l : List UInt8) (hl : l.length ≤ 1000000) : Ev (fun k => scriberef06_Num.f k kd n (B l)) (numS kd n l) := by
  unfold scriberef06_Num.f numS
  by_cases h : kd = 2
  · rw [if_pos h]
    exact Ev.pos h (Ev.bind' (refPrefix_ev l hl) (Ev.const rfl))
  · rw [if_neg h]; exact Ev.neg h (Ev.now _)
theorem refStr_ev (kd n : Int) (l : List UInt8) (h : kd = 1 → fitI n) : Ev (fun k => scriberef06_Str.f k kd n (B l)) (B (strS kd n l)) := by
  unfold scriberef06_Str.f strS
  by_cases h1 : kd = 1
  · rw [if_pos h1]
    exact Ev.pos h1 (Ev.bind' (f := fun _ t => some t) (refText_ev n (h h1).1 (h h1).2) (Ev.now _))
  · rw [if_neg h1]; exact Ev.neg h1 (Ev.now _)
theorem refTrue_some (kd n : Int) (l : List UInt8) : scriberef06_True.f kd n (B l) = some (trueS kd n l) := by
  unfold scriberef06_True.f trueS
  by_cases h : kd = 2
  · rw [if_pos h, if_pos h]
    cases l with
    | nil => rfl
    | cons c l => rw [if_pos (by rw [B_size, List.length_cons]; omega)]; rfl
  · rw [if_neg h, if_neg h]
theorem refCmp_loop (x y : List UInt8) (hx : x.length ≤ 1000000) (_hy : y.length ≤ 1000000) (r : List UInt8) : ∀ (s : List UInt8) (i : Nat), x.drop i = r → y.drop i = s → i ≤ x.length → i ≤ y.length →
    Ev (fun k => scriberef06_Compare.l0 k (B x) (B y) (i : Int)) (Lib.compareBytes r s) := by
  have fin : ∀ (i : Nat) (v : Int), ((x.length : Int) < y.length ∧ v = -1 ∨ (x.length : Int) > y.length ∧ v = 1 ∨ (x.length : Int) = y.length ∧ v = 0) →
      Ev (fun k => scriberef06_Compare.j2 k (B x) (B y) (i : Int) false) v := by
    intro i v hv
    refine Ev.succ ?_
    simp only [scriberef06_Compare.j2]
    rcases hv with ⟨h, rfl⟩ | ⟨h, rfl⟩ | ⟨h, rfl⟩
    · exact Ev.neg (by simp) (Ev.pos (by rw [B_size, B_size]; exact h) (Ev.now _))
    · exact Ev.neg (by simp) (Ev.neg (by rw [B_size, B_size]; omega) (Ev.pos (by rw [B_size, B_size]; exact h) (Ev.now _)))
    · exact Ev.neg (by simp) (Ev.neg (by rw [B_size, B_size]; omega) (Ev.neg (by rw [B_size, B_size]; omega) (Ev.now _)))
  induction r with
  | nil =>
    intro s i hr hs hi hj
    have := drop_nil hr
    refine Ev.succ ?_
    simp only [scriberef06_Compare.l0]
    refine Ev.neg (by rw [B_size]; omega) (fin i _ ?_)
    cases s with
    | nil =>
      have := drop_nil hs
      exact Or.inr (Or.inr ⟨by omega, rfl⟩)
    | cons d s =>
      have hl := congrArg List.length hs
      rw [List.length_drop, List.length_cons] at hl
      exact Or.inl ⟨by omega, rfl⟩
  | cons c r ih =>
    intro s i hr hs hi hj
    obtain ⟨hb, hil, hr'⟩ := bt_drop hr
    have hw1 : wrap64 ((i : Int) + 1) = ((i + 1 : Nat) : Int) := by rw [w64 (by omega) (by omega)]; omega
    refine Ev.succ ?_
    simp only [scriberef06_Compare.l0]
    refine Ev.pos (by rw [B_size]; omega) ?_
    cases s with
    | nil =>
      have := drop_nil hs
      rw [decide_eq_false (by rw [B_size]; omega)]
      exact fin i _ (Or.inr (Or.inl ⟨by omega, rfl⟩))
    | cons d s =>
      obtain ⟨hb', hil', hs'⟩ := bt_drop hs
      rw [decide_eq_true (by rw [B_size]; omega), cb_cons]
      refine Ev.succ ?_
      simp only [scriberef06_Compare.j2, hb, hb', hw1]
      refine Ev.pos trivial (Ev.pos (by omega) (Ev.pos (by rw [B_size]; omega) (Ev.pos (by rw [B_size]; omega) ?_)))
      by_cases h1 : c.toNat < d.toNat
      · rw [if_pos h1]; exact Ev.pos (by omega) (Ev.now _)
      · rw [if_neg h1]
        refine Ev.neg (by omega) ?_
        by_cases h2 : d.toNat < c.toNat
        · rw [if_pos h2]; exact Ev.pos (by omega) (Ev.now _)
        · rw [if_neg h2]
          exact Ev.neg (by omega) (ih s (i + 1) hr' hs' (by omega) (by omega))
theorem refCompare_ev (k1 n1 : Int) (l1 : List UInt8) (k2 n2 : Int) (l2 : List UInt8) (h1 : k1 = 1 → fitI n1) (h2 : k2 = 1 → fitI n2) (z1 : (strS k1 n1 l1).length ≤ 1000000) (z2 : (strS k2 n2 l2).length ≤ 1000000) :
    Ev (fun k => scriberef06_Compare.f k k1 n1 (B l1) k2 n2 (B l2)) (cmpS k1 n1 l1 k2 n2 l2) := by
  unfold scriberef06_Compare.f cmpS
  have go : ∀ b : Bool, Ev (fun k => scriberef06_Compare.j0 k b k1 n1 (B l1) k2 n2 (B l2)) (if b = true then cmpI n1 n2 else Lib.compareBytes (strS k1 n1 l1) (strS k2 n2 l2)) := by
    intro b
    refine Ev.succ ?_
    simp only [scriberef06_Compare.j0]
    cases b with
    | true =>
      refine Ev.pos (by simp) (Ev.const ?_)
      unfold cmpI
      simp only [if_true]
      split
      · rfl
      · split <;> rfl
    | false =>
      refine Ev.neg (by simp) (Ev.bind' (refStr_ev k1 n1 l1 h1) (Ev.bind' (refStr_ev k2 n2 l2 h2) ?_))
      exact refCmp_loop _ _ z1 z2 (strS k1 n1 l1) (strS k2 n2 l2) 0 rfl rfl (Nat.zero_le _) (Nat.zero_le _)
  by_cases ha : k1 = 2
  · refine Ev.pos ha ?_
    have := go false
    rw [if_neg (by simp)] at this
    rw [if_pos (Or.inl ha)]; exact this
  · refine Ev.neg ha ?_
    have := go (k2 != 2)
    by_cases hb : k2 = 2
    · rw [if_neg (by simpa using hb)] at this
      rw [if_pos (Or.inr hb)]; exact this
    · rw [if_pos (by simpa using hb)] at this
      rw [if_neg (by omega)]; exact this
theorem str_le (kd n : Int) (l : List UInt8) (hl : l.length ≤ 100) (h : kd = 1 → fitI n) : (strS kd n l).length ≤ 1000000 := by
  unfold strS
  split
  · rename_i h1
    have hf := h h1
    unfold fitI at hf
    unfold textS textAbs
    have h1 := nDigits_le (n.natAbs / 1000000) (by omega)
    have h2 := places_le (n.natAbs % 1000000) (Nat.mod_lt _ (by omega))
    rw [List.length_append, List.length_append, Lib.decDigits_length]
    have e1 : (if n < 0 then [45] else ([] : List UInt8)).length ≤ 1 := by split <;> simp
    have e2 : (if n.natAbs % 1000000 = 0 then [] else 46 :: places (n.natAbs % 1000000)).length ≤ 21 := by split <;> simp; omega
    omega
  · omega
theorem CellIs_ev (k1 n1 : Int) (s1 : ByteArray) (k2 n2 : Int) (s2 : ByteArray) (_w0 : (Lit.int .i64 k1).wf = true) (_w1 : (Lit.int .i64 n1).wf = true) (_w2 : s1.size ≤ 140737488351232)
    (_w3 : (Lit.int .i64 k2).wf = true) (_w4 : (Lit.int .i64 n2).wf = true) (_w5 : s2.size ≤ 140737488351232) : Ev (fun k => scribelaw06_CellIs.f k k1 n1 s1 k2 n2 s2) true := by
  unfold scribelaw06_CellIs.f
  obtain ⟨l1, hl1, hc1⟩ := ccut k1 n1 s1
  obtain ⟨l2, hl2, hc2⟩ := ccut k2 n2 s2
  refine Ev.bindc hc1 (Ev.bindc hc2 (Ev.bindc rfl (Ev.bindc rfl (Ev.bind' cawake_ev (Ev.pos rfl (Ev.bind' (good_ev k1 n1 l1 (by omega)) (Ev.bind' (refGood_ev k1 n1 l1 (by omega)) ?_)))))))
  refine Ev.neg (by simp) (Ev.bind' (good_ev k2 n2 l2 (by omega)) (Ev.bind' (refGood_ev k2 n2 l2 (by omega)) ?_))
  rw [show (goodB k2 n2 l2 != goodB k2 n2 l2) = false by simp]
  refine Ev.succ ?_
  simp only [scribelaw06_CellIs.j0]
  refine Ev.neg (by simp) (Ev.bind' (refGood_ev k1 n1 l1 (by omega)) ?_)
  have out : Ev (fun k => scribelaw06_CellIs.j1 k true k1 n1 (B l1) k2 n2 (B l2) k1 n1 (B l1) k2 n2 (B l2)) true := by
    refine Ev.succ ?_
    simp only [scribelaw06_CellIs.j1]
    exact Ev.pos (by simp) (Ev.now _)
  by_cases g1 : goodB k1 n1 l1 = true
  · refine Ev.pos g1 (Ev.bind' (refGood_ev k2 n2 l2 (by omega)) ?_)
    by_cases g2 : goodB k2 n2 l2 = true
    · rw [g2]
      have f1 := good_one g1
      have f2 := good_one g2
      refine Ev.succ ?_
      simp only [scribelaw06_CellIs.j1]
      refine Ev.neg (by simp) (Ev.bind' (num_ev k1 n1 l1 (by omega)) (Ev.bind' (refNum_ev k1 n1 l1 (by omega)) (Ev.pos rfl ?_)))
      refine Ev.bind' (str_ev k1 n1 l1 f1) (Ev.bind' (refStr_ev k1 n1 l1 f1) (Ev.pos rfl ?_))
      refine Ev.bindc (true_some k1 n1 l1) (Ev.bindc (refTrue_some k1 n1 l1) (Ev.pos (by simp) ?_))
      refine Ev.bind' (compare_ev k1 n1 l1 k2 n2 l2 f1 f2) (Ev.bind' (refCompare_ev k1 n1 l1 k2 n2 l2 f1 f2 (str_le _ _ _ hl1 f1) (str_le _ _ _ hl2 f2)) (Ev.const ?_))
      simp
    · rw [show goodB k2 n2 l2 = false by simpa using g2]
      exact out
  · exact Ev.neg g1 out

end Go.Proofs.YtmhhklenaadobaaDoor.Pr
