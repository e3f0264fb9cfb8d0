/- Signs behind a thing are of all ahead of them: the pure statement. -/
import Derived.Test.YtdjnjhmmpjbbaaaPuRxG
import Derived.Test.YtdjnjhmmpjbbaaaPr28
set_option linter.unusedVariables false
namespace Go.Proofs.Ytdjnjhmmpjbbaaa.Pr
open Go Go.RowKit Go.Proofs.YtdjnjhmmpjbbaaaW.PrintWords Go.Proofs.YtdjnjhmmpjbbaaaW.PrintLast Go.Proofs.YtdjnjhmmpjbbaaaW.PrintMore

theorem signs_fin (u sg : List UInt8) (hu : u.length ≤ 60) (hs : ∀ c ∈ sg, isSg c) (hl : sg.length ≤ 10) {n : RNode} {s' : St} (hR : R (B u) .alt s0 n s') (he : s'.e = 0) (bs : List Int) (i : Int) :
    Ev (fun k => scribelaw09_RegexSigns.j1 k bs (B (40 :: (u ++ 41 :: sg))) i false (wrapN n sg).f0 (wrapN n sg).f1.f0 (wrapN n sg).f1.f1 (wrapN n sg).f1.f2 (wrapN n sg).f1.f3 (wrapN n sg).f2) true := by
  refine Ev.succ ?_
  simp only [scribelaw09_RegexSigns.j1]
  refine Ev.neg (by simp) ?_
  have ht : ((B (40 :: (u ++ 41 :: sg))).size : Int) ≤ 300 := by rw [B_size]; simp; omega
  rcases group_parse u sg hs (by omega) hR he with ⟨s2, r, e2⟩ | ⟨m, s2, r, e2⟩
  · refine Ev.bind' (parse_ev ht r) (Ev.bind' awake9_ev (Ev.yes ?_))
    rw [if_pos e2]
    dsimp only
    have hp := print_of ht r e2
    refine Ev.neg (by decide) (Ev.yes (Ev.bind' hp (Ev.bind' hp ?_)))
    simp only [beq_self_eq_true]
    exact Ev.now _
  · refine Ev.bind' (parse_ev ht r) (Ev.bind' awake9_ev (Ev.yes ?_))
    rw [if_neg (by omega)]
    dsimp only
    exact Ev.pos e2 (Ev.now _)
theorem tmod3 (x : Int) : Int.tmod x 3 = 1 ∨ Int.tmod x 3 = 2 ∨ (Int.tmod x 3 ≠ 1 ∧ Int.tmod x 3 ≠ 2) := by
  by_cases h : Int.tmod x 3 = 1
  · exact .inl h
  · by_cases h2 : Int.tmod x 3 = 2
    · exact .inr (.inl h2)
    · exact .inr (.inr ⟨h, h2⟩)
theorem signs_loop (u : List UInt8) (hu : u.length ≤ 60) {n : RNode} {s' : St} (hR : R (B u) .alt s0 n s') (he : s'.e = 0) (bs : List Int) (d : Nat) : ∀ sg : List UInt8, (∀ c ∈ sg, isSg c) → sg.length ≤ 10 → 10 - sg.length = d →
    Ev (fun k => scribelaw09_RegexSigns.l0 k bs (B (40 :: (u ++ 41 :: sg))) (sg.length : Int) (wrapN n sg).f0 (wrapN n sg).f1.f0 (wrapN n sg).f1.f1 (wrapN n sg).f1.f2 (wrapN n sg).f1.f3 (wrapN n sg).f2) true := by
  induction d with
  | zero =>
    intro sg hs hl hd
    refine Ev.succ ?_
    simp only [scribelaw09_RegexSigns.l0]
    have hf := signs_fin u sg hu hs hl hR he bs sg.length
    by_cases h : (sg.length : Int) < (bs.length : Int)
    · refine Ev.pos h ?_
      rw [show decide ((sg.length : Int) < 10) = false by simp; omega]
      exact hf
    · exact Ev.neg h hf
  | succ d ih =>
    intro sg hs hl hd
    refine Ev.succ ?_
    simp only [scribelaw09_RegexSigns.l0]
    have hf := signs_fin u sg hu hs hl hR he bs sg.length
    by_cases h : (sg.length : Int) < (bs.length : Int)
    · refine Ev.pos h ?_
      rw [show decide ((sg.length : Int) < 10) = true by simp; omega]
      refine Ev.succ ?_
      simp only [scribelaw09_RegexSigns.j1]
      refine Ev.yes (Ev.pos (by omega) (Ev.pos h ?_))
      have step : ∀ c : UInt8, isSg c → Ev (fun k => if (B (40 :: (u ++ 41 :: sg))).size + 1 ≤ 9223372036854775807 then
          scribelaw09_RegexSigns.l0 k bs (B (40 :: (u ++ 41 :: sg)) ++ B [c]) (wrap64 ((sg.length : Int) + 1)) (opC c) 0 0 0 0 [(⟨(wrapN n sg).f0, ⟨(wrapN n sg).f1.f0, (wrapN n sg).f1.f1, (wrapN n sg).f1.f2, (wrapN n sg).f1.f3⟩, (wrapN n sg).f2⟩ : RNode)] else none) true := by
        intro c hc
        have hi := ih (sg ++ [c]) (fun x hx => by
          rcases List.mem_append.1 hx with hx | hx
          · exact hs x hx
          · rw [List.mem_singleton.1 hx]; exact hc) (by simp; omega) (by simp; omega)
        rw [wrapN_snoc] at hi
        refine Ev.pos (by rw [B_size]; simp; omega) ?_
        rw [B_append, node_eta, w64 (by omega) (by omega)]
        have e1 : (40 :: (u ++ 41 :: sg)) ++ [c] = 40 :: (u ++ 41 :: (sg ++ [c])) := by simp
        have e2 : ((sg.length : Int) + 1) = ((sg ++ [c]).length : Int) := by simp
        rw [e1, e2]
        exact hi
      have s42 := step 42 (.inl rfl)
      have s43 := step 43 (.inr (.inl rfl))
      have s63 := step 63 (.inr (.inr rfl))
      rcases tmod3 (rd bs sg.length) with h1 | h1 | ⟨h1, h2⟩
      · exact Ev.pos h1 (Ev.neg (by omega) s43)
      · exact Ev.neg (by omega) (Ev.pos h1 s63)
      · exact Ev.neg h1 (Ev.neg h2 s42)
    · exact Ev.neg h hf
theorem RegexSigns_ev (a : ByteArray) (bs : List Int) (_h : a.size ≤ 140737488351232) : Ev (fun k => scribelaw09_RegexSigns.f k a bs) true := by
  unfold scribelaw09_RegexSigns.f
  refine Ev.bindc (cut_B a 60) ?_
  generalize hu : a.data.toList.take 60 = u
  have hl : u.length ≤ 60 := by rw [← hu]; exact List.length_take_le _ _
  obtain ⟨n, s', hR, hk⟩ := alt_total (B u) (by rw [B_size]; omega)
  refine Ev.bind' (parse_ev (by rw [B_size]; omega) hR) ?_
  by_cases he : s'.e = 0
  · rw [if_pos he]
    dsimp only
    have hlp := signs_loop u hl hR he bs _ [] (fun c h => by cases h) (by simp) rfl
    refine Ev.yes ?_
    rw [B_lit [40], B_lit [41], B_append, B_append, B_size, B_size]
    refine Ev.pos (by omega) (Ev.pos (by simp; omega) ?_)
    have e : ([40] ++ u) ++ [41] = 40 :: (u ++ 41 :: []) := by simp
    rw [e]
    exact hlp
  · rw [if_neg he]
    dsimp only
    exact Ev.neg he (Ev.bind' awake9_ev (Ev.now _))
end Go.Proofs.Ytdjnjhmmpjbbaaa.Pr
