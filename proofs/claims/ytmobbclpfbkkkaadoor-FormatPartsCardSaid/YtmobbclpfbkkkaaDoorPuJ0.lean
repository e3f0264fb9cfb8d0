/- num: is all of a text a number. -/
import Derived.Test.YtmobbclpfbkkkaaDoorPuI
import Derived.Test.YtmobbclpfbkkkaaDoorPr9
import Derived.Test.YtmobbclpfbkkkaaDoorPr15
namespace Go.Proofs.YtmobbclpfbkkkaaDoor.Pr
open Go Go.RowKit Go.Proofs.YtmobbclpfbkkkaaDoorW.PrintWords Go.Proofs.YtmobbclpfbkkkaaDoorW.PrintLast Go.Proofs.YtmobbclpfbkkkaaDoorW.PrintMore

theorem scan_n (r : List UInt8) : ∀ (dg : Nat) (dot : Bool) (w p u n : Nat), n ≤ (scan r dg dot w p u n).n ∧ (scan r dg dot w p u n).n ≤ n + r.length := by
  induction r with
  | nil => intro dg dot w p u n; simp [scan]
  | cons c r ih =>
    intro dg dot w p u n
    rw [scan]
    repeat' split
    · have := ih dg true w p u (n + 1); rw [List.length_cons]; omega
    · have := ih (dg + 1) dot w (p + (c.toNat - 48) * u) (u / 10) (n + 1); rw [List.length_cons]; omega
    · have := ih (dg + 1) dot (min (10 * w + (c.toNat - 48)) 10000000000000) p u (n + 1); rw [List.length_cons]; omega
    · simp only [List.length_cons]; omega
theorem sign_le (l : List UInt8) : (signOf l).2 ≤ l.length := by
  cases l with
  | nil => simp [signOf]
  | cons c r => unfold signOf; repeat' split
                all_goals simp
theorem prefix_at (l : List UInt8) : 0 ≤ (prefixS l).2 ∧ (prefixS l).2 ≤ l.length := by
  unfold prefixS
  have h1 := dropBlanks_le l 0
  have h2 := sign_le (l.drop (dropBlanks l 0))
  rw [List.length_drop] at h2
  have h3 := scan_n (l.drop (dropBlanks l 0 + (signOf (l.drop (dropBlanks l 0))).2)) 0 false 0 0 100000 (dropBlanks l 0 + (signOf (l.drop (dropBlanks l 0))).2)
  rw [List.length_drop] at h3
  unfold endS
  simp only
  split
  · simp
  · simp only; omega

def looksS (l : List UInt8) : Int × Bool :=
  ((prefixS l).1, if (prefixS l).2 > 0 then Lib.trimS (l.drop (prefixS l).2.toNat) [32, 9, 10] == [] else false)
theorem trim_some (l : List UInt8) (hl : l.length ≤ 1000000) : strings_Trim.f (B l) (⟨#[32, 9, 10]⟩ : ByteArray) = some (B (Lib.trimS l [32, 9, 10])) := by
  unfold strings_Trim.f
  rw [if_pos (by rw [B_size]; omega), if_pos (by decide), if_pos (by decide)]
  rfl
theorem looks_ev (l : List UInt8) (hl : l.length ≤ 1000000) : Ev (fun k => num_Looks.f k (B l)) (looksS l) := by
  unfold num_Looks.f
  refine Ev.bind' (prefix_ev l hl) ?_
  obtain ⟨h0, h1⟩ := prefix_at l
  unfold looksS
  by_cases h : (prefixS l).2 > 0
  · refine Ev.pos h (Ev.pos h0 (Ev.pos (by rw [B_size]; exact h1) ?_))
    rw [if_pos h, B_extract, B_size, List.take_of_length_le (by rw [List.length_drop]; exact Nat.le_refl _)]
    refine Ev.bindc (trim_some _ (by rw [List.length_drop]; omega)) (Ev.const ?_)
    rw [B_toList]
  · refine Ev.neg h (Ev.const ?_)
    rw [if_neg h]

end Go.Proofs.YtmobbclpfbkkkaaDoor.Pr
