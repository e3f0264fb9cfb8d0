/- A number that is shared out and added up is near to itself: the pure statement. -/
import Derived.Test.YtcbocfgiegdhmaaDoorPuNumParts
import Derived.Test.YtcbocfgiegdhmaaDoorPr6
namespace Go.Proofs.YtcbocfgiegdhmaaDoor.Pr
open Go Go.RowKit Go.Proofs.YtcbocfgiegdhmaaDoorW.PrintWords Go.Proofs.YtcbocfgiegdhmaaDoorW.PrintLast Go.Proofs.YtcbocfgiegdhmaaDoorW.PrintMore

theorem clampS_small (s : Bool) (n : Int) (h : n ≤ 4611686018427387903) : clampS s n = if s then -n else n := by
  unfold clampS
  split <;> split <;> omega
theorem parted_k (x : Int) (m : Nat) : parted x ((m : Int) * 1000000) = decide (x < 0) := by
  unfold parted
  rw [show decide ((m : Int) * 1000000 < 0) = false by simp; omega]
  cases decide (x < 0) <;> rfl
theorem shares_facts (a : Int) (m : Nat) (ha : fitI a) (hm : 0 < m) (q c : Int) (hq : q = divS a ((m : Int) * 1000000)) (hc : c = mulS q ((m : Int) * 1000000)) :
    (a - c).natAbs < m ∧ q.natAbs ≤ a.natAbs ∧ (a < 0 → a ≤ c ∧ c ≤ 0 ∧ a - c ≤ 0) ∧ (0 ≤ a → 0 ≤ c ∧ c ≤ a ∧ 0 ≤ a - c) := by
  have ekn : ((m : Int) * 1000000).natAbs = m * 1000000 := by rw [Int.natAbs_mul, Int.natAbs_natCast]; rfl
  have hqle : a.natAbs / m ≤ a.natAbs := Nat.div_le_self _ _
  have hcm : a.natAbs / m * m ≤ a.natAbs := Nat.div_mul_le_self _ _
  have hdm := Nat.div_add_mod a.natAbs m
  have hml := Nat.mod_lt a.natAbs hm
  have hab : a.natAbs ≤ 4611686018427387903 := by unfold fitI at ha; omega
  clear ha
  unfold divS at hq
  rw [parted_k, ekn, Nat.mul_div_mul_right _ _ (show 0 < 1000000 by decide), clampS_small _ _ (by omega)] at hq
  have hqa : q.natAbs = a.natAbs / m := by
    rw [hq]; split
    · rw [Int.natAbs_neg, Int.natAbs_natCast]
    · rw [Int.natAbs_natCast]
  unfold mulS at hc
  rw [parted_k, ekn, hqa, ← Nat.mul_assoc, Nat.mul_div_cancel _ (show 0 < 1000000 by decide), clampS_small _ _ (by omega)] at hc
  rw [Nat.mul_comm m] at hdm
  rw [hqa]
  have hz0 : a.natAbs / m = 0 → a.natAbs / m * m = 0 := fun h => by rw [h]; simp
  generalize a.natAbs / m * m = z2 at *
  generalize a.natAbs % m = z3 at *
  generalize a.natAbs / m = z at *
  clear ekn hqa
  by_cases h : a < 0
  · rw [if_pos (by simpa using h)] at hq
    have hcz : c = -(z2 : Int) := by
      rw [hc]
      split
      · rfl
      · rename_i hn
        have : z = 0 := by simp at hn; omega
        rw [hz0 this]; rfl
    clear hc hz0 hq
    omega
  · rw [if_neg (by simpa using h)] at hq
    have hcz : c = (z2 : Int) := by
      rw [hc, if_neg (by simp; omega)]
    clear hc hz0 hq
    omega

theorem NumShares_ev (a n : Int) (_w0 : (Lit.int .i64 a).wf = true) (_w1 : (Lit.int .i64 n).wf = true) : Ev (fun k => scribelaw05_NumShares.f k a n) true := by
  unfold scribelaw05_NumShares.f
  have out : Ev (fun k => scribelaw05_NumShares.j0 k a n true) true := by
    refine Ev.succ ?_
    simp only [scribelaw05_NumShares.j0]
    exact Ev.pos (by simp) (Ev.bind' (f := fun _ t => some t) awake_ev (Ev.now _))
  by_cases ha : fitI a
  · refine Ev.bindc (fit_yes a ha) (Ev.pos rfl ?_)
    by_cases h1 : n < 1
    · exact Ev.pos h1 out
    · refine Ev.neg h1 ?_
      by_cases h2 : n > 1000
      · rw [show decide (n > 1000) = true by simpa using h2]; exact out
      · rw [show decide (n > 1000) = false by simpa using h2]
        refine Ev.succ ?_
        simp only [scribelaw05_NumShares.j0]
        have hk : wrap64 (n * 1000000) = n * 1000000 := w64 (by omega) (by omega)
        have hw : wrap64 (n + 1) = n + 1 := w64 (by omega) (by omega)
        have hfk : fitI (n * 1000000) := by unfold fitI; omega
        have hk0 : n * 1000000 ≠ 0 := by omega
        rw [hk, hw]
        clear hk hw
        obtain ⟨m, rfl⟩ : ∃ m : Nat, n = m := ⟨n.toNat, by omega⟩
        have hm : 0 < m := by omega
        obtain ⟨q, hq⟩ : ∃ q, q = divS a ((m : Int) * 1000000) := ⟨_, rfl⟩
        have hfq : fitI q := by rw [hq]; exact fit_clampS _ _ (Int.natCast_nonneg _)
        obtain ⟨c, hc⟩ : ∃ c, c = mulS q ((m : Int) * 1000000) := ⟨_, rfl⟩
        have hfc : fitI c := by rw [hc]; exact fit_clampS _ _ (Int.natCast_nonneg _)
        obtain ⟨f1, f2, f3, f4⟩ := shares_facts a m ha hm q c hq hc
        have hdfit : fitI (a - c) := by
          unfold fitI at ha ⊢
          rcases Int.lt_or_le a 0 with h | h
          · have := f3 h; omega
          · have := f4 h; omega
        have e1 := div_ev a _ ha hfk hk0
        have e2 := mul_ev q _ hfq hfk
        have e3 := sub_ev a c ha hfc
        rw [← hq] at e1
        rw [← hc] at e2
        rw [near_fit _ hdfit] at e3
        have l1 := lsize_some q hfq
        have l2 := lsize_some a ha
        have l3 := lsize_some _ hdfit
        clear hq hc hfq hfc hfk hk0 hdfit ha
        refine Ev.neg (by simp) (Ev.bind' e1 (Ev.bind' e2 (Ev.bind' e3 (Ev.bind' awake_ev (Ev.pos rfl (Ev.pos rfl (Ev.bindc l3 (Ev.pos (by omega) ?_))))))))
        clear e1 e2 e3 l3
        have fin : Ev (fun _ : Nat => (scribelaw05_size.f q).bind fun t203 => (scribelaw05_size.f a).bind fun t204 => some (decide (t203 ≤ t204))) true :=
          Ev.const (by rw [l1, l2]; simp only [Option.bind_some]; congr 1; simp; omega)
        by_cases h0 : a - c = 0
        · exact Ev.pos h0 fin
        · refine Ev.neg h0 ?_
          rcases Int.lt_or_le a 0 with h | h
          · exact Ev.pos (by have := f3 h; omega) (Ev.pos h fin)
          · exact Ev.neg (by have := f4 h; omega) (Ev.neg (by omega) fin)
  · exact Ev.bindc (fit_no a ha) (Ev.neg (by decide) out)

end Go.Proofs.YtcbocfgiegdhmaaDoor.Pr
