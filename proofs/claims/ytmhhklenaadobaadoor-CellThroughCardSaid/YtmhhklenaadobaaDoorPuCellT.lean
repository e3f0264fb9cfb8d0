/- cell: a number's text, looked at. -/
import Derived.Test.YtmhhklenaadobaaDoorPuCell
namespace Go.Proofs.YtmhhklenaadobaaDoor.Pr
open Go Go.RowKit Go.Proofs.YtmhhklenaadobaaDoorW.PrintWords Go.Proofs.YtmhhklenaadobaaDoorW.PrintLast Go.Proofs.YtmhhklenaadobaaDoorW.PrintMore

theorem looks_text (a : Int) (ha : fitI a) : looksS (textS a) = (a, true) := by
  have hp := prefix_text a ha.1 ha.2 [] [] (by simp) (fun c r' h => by cases h)
  simp only [List.nil_append, List.append_nil, List.length_nil, Nat.zero_add] at hp
  unfold looksS
  rw [hp]
  refine Prod.ext rfl ?_
  simp only
  have : 0 < (textS a).length := by
    unfold textS
    obtain ⟨c, r, h, _⟩ := abs_head a.natAbs
    rw [h, List.length_append, List.length_cons]; omega
  rw [if_pos (by omega), Int.toNat_natCast, List.drop_length]
  rfl
theorem input_text (a : Int) (ha : fitI a) : inputS (textS a) = (3, a, textS a) := by
  unfold inputS
  rw [looks_text a ha]; rfl
theorem ctext_le (a : Int) (ha : fitI a) : (textS a).length ≤ 70 := by
  unfold fitI at ha
  unfold textS textAbs
  have h1 := nDigits_le (a.natAbs / 1000000) (by omega)
  have h2 := places_le (a.natAbs % 1000000) (Nat.mod_lt _ (by omega))
  rw [List.length_append, List.length_append, Lib.decDigits_length]
  have e1 : (if a < 0 then [45] else ([] : List UInt8)).length ≤ 1 := by split <;> simp
  have e2 : (if a.natAbs % 1000000 = 0 then [] else 46 :: places (a.natAbs % 1000000)).length ≤ 21 := by split <;> simp; omega
  omega

end Go.Proofs.YtmhhklenaadobaaDoor.Pr
