/- Texts byte by byte, numbers by size: the pure statement. -/
import Derived.Test.YtmhhklenaadobaaDoorPuCellT
import Derived.Test.YtmhhklenaadobaaDoorPr12
namespace Go.Proofs.YtmhhklenaadobaaDoor.Pr
open Go Go.RowKit Go.Proofs.YtmhhklenaadobaaDoorW.PrintWords Go.Proofs.YtmhhklenaadobaaDoorW.PrintLast Go.Proofs.YtmhhklenaadobaaDoorW.PrintMore

theorem cb_less : ∀ x y : List UInt8, (Op.bytesLess x y = true ↔ Lib.compareBytes x y = -1)
  | [], [] => by simp [Op.bytesLess, Lib.compareBytes]
  | [], _ :: _ => by simp [Op.bytesLess, Lib.compareBytes]
  | _ :: _, [] => by simp [Op.bytesLess, Lib.compareBytes]
  | a :: xs, b :: ys => by
    have hab : a < b ↔ a.toNat < b.toNat := UInt8.lt_iff_toNat_lt
    have ih := cb_less xs ys
    rw [cb_cons]
    simp only [Op.bytesLess]
    by_cases h1 : a.toNat < b.toNat
    · rw [if_pos h1, decide_eq_true (hab.2 h1)]; simp
    · rw [if_neg h1, decide_eq_false (fun h => h1 (hab.1 h)), Bool.false_or]
      by_cases h2 : b.toNat < a.toNat
      · rw [if_pos h2, show (a == b) = false by rw [beq_eq_false_iff_ne]; rintro rfl; omega]
        simp
      · rw [if_neg h2, show (a == b) = true by rw [beq_iff_eq]; exact u8_ext (by omega), Bool.true_and]
        exact ih
theorem CellTexts_ev (s1 s2 : ByteArray) (m n : Int) (_w0 : s1.size ≤ 140737488351232) (_w1 : s2.size ≤ 140737488351232) (_w2 : (Lit.int .i64 m).wf = true) (_w3 : (Lit.int .i64 n).wf = true) :
    Ev (fun k => scribelaw06_CellTexts.f k s1 s2 m n) true := by
  unfold scribelaw06_CellTexts.f
  obtain ⟨l1, hl1, hc1⟩ := cut_some s1 50 (by omega)
  obtain ⟨l2, hl2, hc2⟩ := cut_some s2 50 (by omega)
  refine Ev.bindc hc1 (Ev.bindc hc2 ?_)
  have asleep : Ev (fun k => scribelaw06_CellTexts.j0 k (B l1) (B l2) m n true) true := by
    refine Ev.succ ?_
    simp only [scribelaw06_CellTexts.j0]
    exact Ev.pos (by simp) (Ev.bind' (f := fun _ t => some t) cawake_ev (Ev.now _))
  by_cases m1 : m < -4611686018427387903
  · exact Ev.pos m1 asleep
  refine Ev.neg m1 ?_
  by_cases m2 : m > 4611686018427387903
  · exact Ev.pos m2 asleep
  refine Ev.neg m2 ?_
  by_cases n1 : n < -4611686018427387903
  · exact Ev.pos n1 asleep
  refine Ev.neg n1 ?_
  by_cases n2 : n > 4611686018427387903
  · rw [decide_eq_true n2]; exact asleep
  rw [decide_eq_false n2]
  have fm : fitI m := ⟨by omega, by omega⟩
  have fn : fitI n := ⟨by omega, by omega⟩
  have last : ∀ (w z : Int), w = Lib.compareBytes l1 l2 → z = cmpI m n → Ev (fun k => scribelaw06_CellTexts.j4 k (B l1) (B l2) m n w z) true := by
    intro w z hw hz
    refine Ev.succ ?_
    simp only [scribelaw06_CellTexts.j4]
    refine Ev.bind' cawake_ev (Ev.pos rfl (Ev.bindc rfl (Ev.bindc rfl (Ev.bind' (compare_ev 2 0 l1 2 0 l2 (by omega) (by omega)) (Ev.pos ?_ ?_)))))
    · rw [hw]; rfl
    refine Ev.bindc rfl (Ev.bindc rfl (Ev.bind' (compare_ev 1 m [] 1 n [] (fun _ => fm) (fun _ => fn)) (Ev.pos ?_ ?_)))
    · rw [hz]; rfl
    refine Ev.bind' (text_ev m fm.1 fm.2) (Ev.bind' (input_ev (textS m) (by have := ctext_le m fm; omega)) ?_)
    rw [input_text m fm]
    refine Ev.bind' (compare_ev 3 m (textS m) 1 n [] (by omega) (fun _ => fn)) (Ev.pos ?_ ?_)
    · rw [hz]; rfl
    refine Ev.bind' (input_ev l1 (by omega)) ?_
    by_cases hk : (inputS l1).1 = 3
    · exact Ev.pos hk (Ev.now _)
    · refine Ev.neg hk ?_
      have e : inputS l1 = (2, 0, l1) := by
        unfold inputS at hk ⊢
        by_cases h : (looksS l1).2 = true
        · rw [if_pos h] at hk; exact absurd rfl hk
        · rw [if_neg h]
      rw [e]
      refine Ev.bind' (compare_ev 2 0 l1 2 0 l2 (by omega) (by omega)) (Ev.const ?_)
      rw [hw]
      have : cmpS 2 0 l1 2 0 l2 = Lib.compareBytes l1 l2 := rfl
      rw [this]; simp
  have j3 : ∀ (w : Int), w = Lib.compareBytes l1 l2 → ∀ z0 : Int, (m < n ∧ z0 = -1) ∨ (¬ m < n ∧ z0 = 0) → Ev (fun k => scribelaw06_CellTexts.j3 k (B l1) (B l2) m n w z0) true := by
    intro w hw z0 hz
    refine Ev.succ ?_
    simp only [scribelaw06_CellTexts.j3]
    by_cases g : m > n
    · exact Ev.pos g (last w 1 hw (by unfold cmpI; rw [if_neg (by omega), if_pos (by omega)]))
    · refine Ev.neg g (last w z0 hw ?_)
      unfold cmpI
      rcases hz with ⟨h1, h2⟩ | ⟨h1, h2⟩
      · rw [if_pos h1, h2]
      · rw [if_neg h1, if_neg (by omega), h2]
  have j2 : ∀ (w : Int), w = Lib.compareBytes l1 l2 → Ev (fun k => scribelaw06_CellTexts.j2 k (B l1) (B l2) m n w) true := by
    intro w hw
    refine Ev.succ ?_
    simp only [scribelaw06_CellTexts.j2]
    by_cases g : m < n
    · exact Ev.pos g (j3 w hw (-1) (Or.inl ⟨g, rfl⟩))
    · exact Ev.neg g (j3 w hw 0 (Or.inr ⟨g, rfl⟩))
  have t3 := cb_three l1 l2
  have tt1 := cb_less l1 l2
  have tt2 := cb_less l2 l1
  rw [cb_turn l2 l1] at tt2
  have j1 : ∀ (w : Int), (Lib.compareBytes l1 l2 = -1 ∧ w = -1) ∨ (Lib.compareBytes l1 l2 ≠ -1 ∧ w = 0) → Ev (fun k => scribelaw06_CellTexts.j1 k (B l1) (B l2) m n w) true := by
    intro w hw
    refine Ev.succ ?_
    simp only [scribelaw06_CellTexts.j1, B_toList]
    by_cases g : Op.bytesLess l2 l1 = true
    · refine Ev.pos g (j2 1 ?_)
      have := tt2.1 g; omega
    · refine Ev.neg g (j2 w ?_)
      have : Lib.compareBytes l1 l2 ≠ 1 := fun h => g (tt2.2 (by omega))
      omega
  refine Ev.succ ?_
  simp only [scribelaw06_CellTexts.j0, B_toList]
  refine Ev.neg (by simp) ?_
  by_cases g : Op.bytesLess l1 l2 = true
  · exact Ev.pos g (j1 (-1) (Or.inl ⟨tt1.1 g, rfl⟩))
  · exact Ev.neg g (j1 0 (Or.inr ⟨fun h => g (tt1.2 h), rfl⟩))

end Go.Proofs.YtmhhklenaadobaaDoor.Pr
