/- Numbers and texts as the document has them: the pure statement. -/
import Derived.Test.YtcbocfgiegdhmaaDoorPuL
import Derived.Test.YtcbocfgiegdhmaaDoorPuM
import Derived.Test.YtcbocfgiegdhmaaDoorPr22
import Derived.Test.YtcbocfgiegdhmaaDoorPr26
namespace Go.Proofs.YtcbocfgiegdhmaaDoor.Pr
open Go Go.RowKit Go.Proofs.YtcbocfgiegdhmaaDoorW.PrintWords Go.Proofs.YtcbocfgiegdhmaaDoorW.PrintLast Go.Proofs.YtcbocfgiegdhmaaDoorW.PrintMore

theorem cut_some (s : ByteArray) (n : Nat) (hn : n ≤ 1000000) : ∃ l : List UInt8, l.length ≤ n ∧ scribelaw01_Cut.f s (n : Int) = some (B l) := by
  unfold scribelaw01_Cut.f
  by_cases h : (s.size : Int) > (n : Int)
  · refine ⟨s.data.toList.take n, by rw [List.length_take]; omega, ?_⟩
    rw [if_pos h, if_pos (by omega), if_pos (by omega)]
    congr 1
    rw [← B_eta s, B_extract, Int.toNat_natCast]
    rfl
  · refine ⟨s.data.toList, ?_, by rw [if_neg h, B_eta]⟩
    have : s.data.toList.length = s.size := by rw [Array.length_toList]; rfl
    omega

theorem NumTexts_ev (a : Int) (s : ByteArray) (_w0 : (Lit.int .i64 a).wf = true) (_w1 : s.size ≤ 140737488351232) : Ev (fun k => scribelaw05_NumTexts.f k a s) true := by
  unfold scribelaw05_NumTexts.f
  obtain ⟨l, hl, hc⟩ := cut_some s 100 (by omega)
  refine Ev.bindc hc (Ev.bind' (prefix_ev l (by omega)) (Ev.bind' (refPrefix_ev l (by omega)) (Ev.bind' (looks_ev l (by omega)) (Ev.bind' (refLooks_ev l (by omega)) (Ev.bind' awake_ev ?_)))))
  refine Ev.pos rfl (Ev.pos rfl (Ev.pos rfl (Ev.pos rfl ?_)))
  refine Ev.succ ?_
  simp only [scribelaw05_NumTexts.j0]
  refine Ev.neg (by simp) ?_
  by_cases ha : fitI a
  · refine Ev.bindc (fit_yes a ha) (Ev.pos rfl ?_)
    refine Ev.bind' (text_ev a ha.1 ha.2) (Ev.bind' (refText_ev a ha.1 ha.2) (Ev.const ?_))
    simp
  · refine Ev.bindc (fit_no a ha) (Ev.neg (by decide) (Ev.const rfl))

end Go.Proofs.YtcbocfgiegdhmaaDoor.Pr
