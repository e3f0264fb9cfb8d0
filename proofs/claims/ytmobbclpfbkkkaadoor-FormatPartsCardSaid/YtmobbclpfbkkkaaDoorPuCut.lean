/- A text cut off. -/
import Derived.Test.YtmobbclpfbkkkaaDoorPuF
import Derived.Test.YtmobbclpfbkkkaaDoorPr15
namespace Go.Proofs.YtmobbclpfbkkkaaDoor.Pr
open Go Go.RowKit Go.Proofs.YtmobbclpfbkkkaaDoorW.PrintWords Go.Proofs.YtmobbclpfbkkkaaDoorW.PrintLast Go.Proofs.YtmobbclpfbkkkaaDoorW.PrintMore

theorem cut_some (s : ByteArray) (n : Nat) (hn : n ≤ 1000000) : ∃ l : List UInt8, l.length ≤ n ∧ scribelaw01_Cut.f s (n : Int) = some (B l) := by
  unfold scribelaw01_Cut.f
  by_cases h : (s.size : Int) > (n : Int)
  · refine ⟨s.data.toList.take n, by rw [List.length_take]; omega, ?_⟩
    rw [if_pos h, if_pos (by omega), if_pos (by omega)]
    congr 1
    rw [← B_eta s, B_extract, Int.toNat_natCast]
    rfl
  · refine ⟨s.data.toList, ?_, by rw [if_neg h, B_eta]⟩
    have : s.data.toList.length = s.size := by rw [Array.length_toList]; rfl
    omega

end Go.Proofs.YtmobbclpfbkkkaaDoor.Pr
