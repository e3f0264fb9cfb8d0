/- A pattern in ( and ) is itself: the pure statement. -/
import Derived.Test.YtdjnjhmmpjbbaaaPuRxD
import Derived.Test.YtdjnjhmmpjbbaaaPr27
set_option linter.unusedVariables false
namespace Go.Proofs.Ytdjnjhmmpjbbaaa.Pr
open Go Go.RowKit Go.Proofs.YtdjnjhmmpjbbaaaW.PrintWords Go.Proofs.YtdjnjhmmpjbbaaaW.PrintLast Go.Proofs.YtdjnjhmmpjbbaaaW.PrintMore

theorem RegexGroup_ev (a : ByteArray) (_h : a.size ≤ 140737488351232) : Ev (fun k => scribelaw09_RegexGroup.f k a) true := by
  unfold scribelaw09_RegexGroup.f
  refine Ev.bindc (cut_B a 100) ?_
  generalize hu : a.data.toList.take 100 = u
  have hl : u.length ≤ 100 := by rw [← hu]; exact List.length_take_le _ _
  obtain ⟨n, s', hR, hk⟩ := alt_total (B u) (by rw [B_size]; omega)
  refine Ev.bind' (parse_ev (by rw [B_size]; omega) hR) ?_
  by_cases he : s'.e = 0
  · rw [if_pos he]
    dsimp only
    refine Ev.yes ?_
    rw [B_lit [40], B_lit [41], B_lit [41, 42], B_append, B_append, B_append, B_size, B_size]
    have e1 : ([40] ++ u) ++ [41] = 40 :: (u ++ 41 :: []) := by simp
    have e2 : ([40] ++ u) ++ [41, 42] = 40 :: (u ++ 41 :: [42]) := by simp
    rw [e1, e2]
    obtain ⟨m, H⟩ := group_both u hR he (by omega)
    have h1 := H [] (fun c h => by cases h) (by simp; omega)
    have h2 := H [42] (fun c h => by rw [List.mem_singleton.1 h]; exact .inl rfl) (by simp; omega)
    have z1 : ((B (40 :: (u ++ 41 :: []))).size : Int) ≤ 300 := by rw [B_size]; simp; omega
    have z2 : ((B (40 :: (u ++ 41 :: [42]))).size : Int) ≤ 300 := by rw [B_size]; simp; omega
    refine Ev.pos (by omega) (Ev.pos (by simp; omega) ?_)
    by_cases hm : m ≤ 19
    · obtain ⟨sa, ra, ea⟩ := h1.1 hm
      obtain ⟨sb, rb, eb⟩ := h2.1 hm
      have pn := print_of (by rw [B_size]; omega) hR he
      refine Ev.bind' (parse_ev z1 ra) (Ev.pos (by simp; omega) (Ev.bind' (parse_ev z2 rb) ?_))
      rw [if_pos ea, if_pos eb]
      dsimp only [wrapN]
      refine Ev.neg (by decide) ?_
      refine Ev.succ ?_
      simp only [scribelaw09_RegexGroup.j0]
      refine Ev.neg (by simp) (Ev.bind' awake9_ev (Ev.pos (by first | exact True.intro | exact Eq.refl _ | simp) (Ev.pos (by first | exact True.intro | exact Eq.refl _ | simp) (Ev.bind' pn (Ev.bind' pn (Ev.pos (by first | exact True.intro | exact Eq.refl _ | simp) (Ev.pos (by first | exact True.intro | exact Eq.refl _ | simp) (Ev.pos (by decide) (Ev.pos (by first | exact True.intro | exact Eq.refl _ | simp) (Ev.pos (by simp) ?_))))))))))
      rw [show rd_T29 [n] 0 = n from rfl]
      refine Ev.bind' pn (Ev.bind' pn ?_)
      simp only [beq_self_eq_true]
      exact Ev.now _
    · obtain ⟨ka, sa, ra, ea⟩ := h1.2 (by omega)
      obtain ⟨kb, sb, rb, eb⟩ := h2.2 (by omega)
      refine Ev.bind' (parse_ev z1 ra) (Ev.pos (by simp; omega) (Ev.bind' (parse_ev z2 rb) ?_))
      rw [if_neg (by omega), if_neg (by omega)]
      dsimp only
      refine Ev.pos ea ?_
      rw [show (sb.e == 14) = true by simpa using eb]
      refine Ev.succ ?_
      simp only [scribelaw09_RegexGroup.j0]
      exact Ev.yes (Ev.bind' awake9_ev (Ev.now _))
  · rw [if_neg he]
    dsimp only
    exact Ev.neg he (Ev.bind' awake9_ev (Ev.now _))
end Go.Proofs.Ytdjnjhmmpjbbaaa.Pr
