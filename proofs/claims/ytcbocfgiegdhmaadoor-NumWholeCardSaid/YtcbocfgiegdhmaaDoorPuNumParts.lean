/- A number is what was divided and what is left: the pure statement. -/
import Derived.Test.YtcbocfgiegdhmaaDoorPuE
import Derived.Test.YtcbocfgiegdhmaaDoorPr10
import Derived.Test.YtcbocfgiegdhmaaDoorPr11
namespace Go.Proofs.YtcbocfgiegdhmaaDoor.Pr
open Go Go.RowKit Go.Proofs.YtcbocfgiegdhmaaDoorW.PrintWords Go.Proofs.YtcbocfgiegdhmaaDoorW.PrintLast Go.Proofs.YtcbocfgiegdhmaaDoorW.PrintMore

theorem lsize_some (a : Int) (h : fitI a) : scribelaw05_size.f a = some (a.natAbs : Int) := by
  unfold fitI at h
  unfold scribelaw05_size.f
  split
  · rw [w64 (by omega) (by omega)]; congr 1; omega
  · congr 1; omega
theorem tmod_abs (a b : Int) : (Int.tmod a b).natAbs = a.natAbs % b.natAbs := Int.natAbs_tmod a b
theorem tmod_sign (a b : Int) : (0 ≤ a → 0 ≤ Int.tmod a b) ∧ (a < 0 → Int.tmod a b ≤ 0) := by
  refine ⟨fun h => Int.tmod_nonneg b h, fun h => ?_⟩
  have h1 := Int.tmod_nonneg b (show 0 ≤ -a by omega)
  rw [Int.neg_tmod] at h1
  omega

theorem NumParts_ev (a b : Int) (_w0 : (Lit.int .i64 a).wf = true) (_w1 : (Lit.int .i64 b).wf = true) : Ev (fun k => scribelaw05_NumParts.f k a b) true := by
  unfold scribelaw05_NumParts.f
  by_cases ha : fitI a
  · refine Ev.bindc (fit_yes a ha) (Ev.pos rfl ?_)
    by_cases hb : fitI b
    · refine Ev.bindc (fit_yes b hb) (Ev.pos rfl (Ev.succ ?_))
      simp only [scribelaw05_NumParts.j0]
      by_cases hb0 : b = 0
      · exact Ev.pos (by simpa using hb0) (Ev.bind' (f := fun _ t => some t) awake_ev (Ev.now _))
      · refine Ev.neg (by simpa using hb0) ?_
        have hm : num_Mod.f a b = some (Int.tmod a b, 0) := by unfold num_Mod.f; rw [if_neg hb0]
        have habs := tmod_abs a b
        have hlt : (Int.tmod a b).natAbs < b.natAbs := by rw [habs]; exact Nat.mod_lt _ (by omega)
        have hle : (Int.tmod a b).natAbs ≤ a.natAbs := by rw [habs]; exact Nat.mod_le _ _
        obtain ⟨hs1, hs2⟩ := tmod_sign a b
        have hmul := Int.mul_tdiv_add_tmod a b
        have hz : Int.tmod (a - Int.tmod a b) b = 0 := by
          rw [show a - Int.tmod a b = b * Int.tdiv a b by omega]
          exact Int.mul_tmod_right _ _
        generalize hmm : Int.tmod a b = m at *
        have h1 : fitI 1 := by unfold fitI; omega
        refine Ev.bindc hm (Ev.bind' (add_ev a 1 ha h1) ?_)
        -- the quotient
        obtain ⟨q, e, hq, hqe⟩ : ∃ q e, Ev (fun k => num_Div.f k a (near (a + 1))) (q, e) ∧ ((a = -1 → e = 16) ∧ (0 ≤ a → 0 ≤ q ∧ q ≤ 1000000)) := by
          by_cases hn : near (a + 1) = 0
          · refine ⟨0, 16, by rw [hn]; exact div_zero a, fun _ => rfl, fun h => by omega⟩
          · refine ⟨_, _, div_ev a _ ha (fit_near _) hn, ?_, ?_⟩
            · intro h; subst h; exact absurd (by decide : near (-1 + 1) = 0) hn
            · intro h
              have hc : a ≤ near (a + 1) := by unfold fitI at ha; unfold near; split <;> (try split) <;> omega
              have hc0 : 0 < near (a + 1) := by unfold fitI at ha; unfold near; split <;> (try split) <;> omega
              have hp : parted a (near (a + 1)) = false := by unfold parted; rw [show decide (a < 0) = false by simp; omega, show decide (near (a + 1) < 0) = false by simp; omega]; rfl
              have hd : a.natAbs * 1000000 / (near (a + 1)).natAbs ≤ 1000000 := by
                refine Nat.div_le_of_le_mul ?_
                exact Nat.mul_le_mul_right _ (by omega)
              unfold divS clampS
              rw [hp]
              generalize a.natAbs * 1000000 / (near (a + 1)).natAbs = z at *
              simp only [Bool.false_eq_true, if_false]
              split <;> omega
        refine Ev.bind' hq (Ev.pos rfl ?_)
        have hw : wrap64 (-m) = -m := by unfold fitI at ha; exact w64 (by omega) (by omega)
        have hw2 : wrap64 (a - m) = a - m := by unfold fitI at ha; exact w64 (by omega) (by omega)
        have end_ : Ev (fun k => scribelaw05_NumParts.j1 k a b m q e false) true := by
          refine Ev.succ ?_
          simp only [scribelaw05_NumParts.j1, hw2]
          have fin : Ev (fun k => (scribelaw05_awake.f k).bind fun t => if t = true then (if b = 0 then none else some (Int.tmod (a - m) b == 0)) else some false) true :=
            Ev.bind' (f := fun _ t => if t = true then (if b = 0 then none else some (Int.tmod (a - m) b == 0)) else some false) awake_ev (Ev.pos rfl (Ev.neg hb0 (Ev.const (by rw [hz]; rfl))))
          refine Ev.neg (by simp) ?_
          by_cases ham : a = -1
          · exact Ev.pos ham (Ev.pos (hqe.1 ham) (Ev.neg (by omega) fin))
          · refine Ev.neg ham ?_
            by_cases h0 : a ≥ 0
            · exact Ev.pos h0 (Ev.neg (by have := hqe.2 h0; omega) (Ev.neg (by have := hqe.2 h0; omega) fin))
            · exact Ev.neg h0 fin
        by_cases hm0 : m = 0
        · exact Ev.pos hm0 (Ev.neg (by omega) (Ev.neg (by omega) end_))
        · refine Ev.neg hm0 ?_
          by_cases hmn : m < 0
          · refine Ev.pos hmn (Ev.pos (by omega) (Ev.bindc (lsize_some b hb) (Ev.neg (by rw [hw]; omega) (Ev.neg (by omega) end_))))
          · refine Ev.neg hmn (Ev.neg (by omega) (Ev.pos (by omega) (Ev.bindc (lsize_some b hb) ?_)))
            rw [show decide (m ≥ (b.natAbs : Int)) = false by simp; omega]
            exact end_
    · refine Ev.bindc (fit_no b hb) (Ev.neg (by decide) (Ev.succ ?_))
      simp only [scribelaw05_NumParts.j0]
      exact Ev.pos (by simp) (Ev.bind' (f := fun _ t => some t) awake_ev (Ev.now _))
  · refine Ev.bindc (fit_no a ha) (Ev.neg (by decide) (Ev.succ ?_))
    simp only [scribelaw05_NumParts.j0]
    exact Ev.pos (by simp) (Ev.bind' (f := fun _ t => some t) awake_ev (Ev.now _))

end Go.Proofs.YtcbocfgiegdhmaaDoor.Pr
