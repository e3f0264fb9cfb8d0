/- A number's text is that number: the pure statement. -/
import Derived.Test.YtcbocfgiegdhmaaDoorPuJ
import Derived.Test.YtcbocfgiegdhmaaDoorPr27
namespace Go.Proofs.YtcbocfgiegdhmaaDoor.Pr
open Go Go.RowKit Go.Proofs.YtcbocfgiegdhmaaDoorW.PrintWords Go.Proofs.YtcbocfgiegdhmaaDoorW.PrintLast Go.Proofs.YtcbocfgiegdhmaaDoorW.PrintMore

theorem textAbs_le (u : Nat) (h : u < 4611686018427387904) : (textAbs u).length ≤ 60 := by
  unfold textAbs
  rw [List.length_append, Lib.decDigits_length]
  have h1 := nDigits_le (u / 1000000) (by omega)
  have h2 := places_le (u % 1000000) (Nat.mod_lt _ (by omega))
  split
  · simp; omega
  · rw [List.length_cons]; omega
theorem text_le (a : Int) (ha : fitI a) : (textS a).length ≤ 70 := by
  unfold fitI at ha
  unfold textS
  have := textAbs_le a.natAbs (by omega)
  rw [List.length_append]
  split <;> simp <;> omega
theorem stops_nil : Stops [] := fun c r' h => by cases h
theorem stops_nl : Stops [10] := fun c r' h => by
  injection h with h1 h2
  subst h1
  exact ⟨by decide, by decide⟩

theorem NumBack_ev (a : Int) (_w0 : (Lit.int .i64 a).wf = true) : Ev (fun k => scribelaw05_NumBack.f k a) true := by
  unfold scribelaw05_NumBack.f
  by_cases ha : fitI a
  · refine Ev.bindc (fit_yes a ha) (Ev.pos rfl ?_)
    have hl := text_le a ha
    have hp := prefix_text a ha.1 ha.2 [] [] (by simp) stops_nil
    have hq := prefix_text a ha.1 ha.2 [32] [10] (by simp [isBlank]) stops_nl
    simp only [List.nil_append, List.append_nil, List.length_nil, Nat.zero_add] at hp
    refine Ev.bind' (text_ev a ha.1 ha.2) (Ev.bind' (prefix_ev _ (by omega)) ?_)
    rw [hp]
    simp only [show (⟨#[32]⟩ : ByteArray) = B [32] from rfl, show (⟨#[10]⟩ : ByteArray) = B [10] from rfl, B_append, B_size, List.length_append, List.length_cons, List.length_nil]
    refine Ev.pos (by omega) (Ev.pos (by omega) ?_)
    rw [List.append_assoc]
    refine Ev.bind' (looks_ev ([32] ++ (textS a ++ [10])) (by simp; omega)) (Ev.bind' awake_ev (Ev.pos rfl (Ev.pos (by simp) (Ev.pos (by simp) ?_))))
    have hk : looksS ([32] ++ (textS a ++ [10])) = (a, true) := by
      unfold looksS
      rw [hq]
      refine Prod.ext rfl ?_
      simp only [List.length_cons, List.length_nil]
      rw [if_pos (by omega), Int.toNat_natCast]
      have : ([32] ++ (textS a ++ [10])).drop (0 + 1 + (textS a).length) = [10] := by
        rw [← List.append_assoc]
        exact List.drop_left' (by simp; omega)
      rw [this]
      decide
    rw [hk]
    exact Ev.pos rfl (Ev.const (by simp))
  · refine Ev.bindc (fit_no a ha) (Ev.neg (by decide) ?_)
    exact Ev.bind' (f := fun _ t => some t) awake_ev (Ev.now _)

end Go.Proofs.YtcbocfgiegdhmaaDoor.Pr
