/- num: is all of a text a number; a whole number. -/
import Derived.Test.YtcbocfgiegdhmaaDoorPuE
import Derived.Test.YtcbocfgiegdhmaaDoorPuI
import Derived.Test.YtcbocfgiegdhmaaDoorPr1
import Derived.Test.YtcbocfgiegdhmaaDoorPr7
import Derived.Test.YtcbocfgiegdhmaaDoorPr14
import Derived.Test.YtcbocfgiegdhmaaDoorPr24
namespace Go.Proofs.YtcbocfgiegdhmaaDoor.Pr
open Go Go.RowKit Go.Proofs.YtcbocfgiegdhmaaDoorW.PrintWords Go.Proofs.YtcbocfgiegdhmaaDoorW.PrintLast Go.Proofs.YtcbocfgiegdhmaaDoorW.PrintMore

theorem scan_n (r : List UInt8) : ∀ (dg : Nat) (dot : Bool) (w p u n : Nat), n ≤ (scan r dg dot w p u n).n ∧ (scan r dg dot w p u n).n ≤ n + r.length := by
  induction r with
  | nil => intro dg dot w p u n; simp [scan]
  | cons c r ih =>
    intro dg dot w p u n
    rw [scan]
    repeat' split
    · have := ih dg true w p u (n + 1); rw [List.length_cons]; omega
    · have := ih (dg + 1) dot w (p + (c.toNat - 48) * u) (u / 10) (n + 1); rw [List.length_cons]; omega
    · have := ih (dg + 1) dot (min (10 * w + (c.toNat - 48)) 10000000000000) p u (n + 1); rw [List.length_cons]; omega
    · simp only [List.length_cons]; omega
theorem sign_le (l : List UInt8) : (signOf l).2 ≤ l.length := by
  cases l with
  | nil => simp [signOf]
  | cons c r => unfold signOf; repeat' split
                all_goals simp
theorem prefix_at (l : List UInt8) : 0 ≤ (prefixS l).2 ∧ (prefixS l).2 ≤ l.length := by
  unfold prefixS
  have h1 := dropBlanks_le l 0
  have h2 := sign_le (l.drop (dropBlanks l 0))
  rw [List.length_drop] at h2
  have h3 := scan_n (l.drop (dropBlanks l 0 + (signOf (l.drop (dropBlanks l 0))).2)) 0 false 0 0 100000 (dropBlanks l 0 + (signOf (l.drop (dropBlanks l 0))).2)
  rw [List.length_drop] at h3
  unfold endS
  simp only
  split
  · simp
  · simp only; omega

def looksS (l : List UInt8) : Int × Bool :=
  ((prefixS l).1, if (prefixS l).2 > 0 then Lib.trimS (l.drop (prefixS l).2.toNat) [32, 9, 10] == [] else false)
theorem trim_some (l : List UInt8) (hl : l.length ≤ 1000000) : strings_Trim.f (B l) (⟨#[32, 9, 10]⟩ : ByteArray) = some (B (Lib.trimS l [32, 9, 10])) := by
  unfold strings_Trim.f
  rw [if_pos (by rw [B_size]; omega), if_pos (by decide), if_pos (by decide)]
  rfl
theorem looks_ev (l : List UInt8) (hl : l.length ≤ 1000000) : Ev (fun k => num_Looks.f k (B l)) (looksS l) := by
  unfold num_Looks.f
  refine Ev.bind' (prefix_ev l hl) ?_
  obtain ⟨h0, h1⟩ := prefix_at l
  unfold looksS
  by_cases h : (prefixS l).2 > 0
  · refine Ev.pos h (Ev.pos h0 (Ev.pos (by rw [B_size]; exact h1) ?_))
    rw [if_pos h, B_extract, B_size, List.take_of_length_le (by rw [List.length_drop]; exact Nat.le_refl _)]
    refine Ev.bindc (trim_some _ (by rw [List.length_drop]; omega)) (Ev.const ?_)
    rw [B_toList]
  · refine Ev.neg h (Ev.const ?_)
    rw [if_neg h]

theorem int_ev (n : Int) (h0 : -9223372036854775808 ≤ n) (h1 : n ≤ 9223372036854775807) : Ev (fun k => num_Int.f k n) (near (n * 1000000)) := by
  unfold num_Int.f
  have key : ∀ (x : Nat), x ≤ 9223372036854775808 → ∀ s : Bool, Ev (fun k => (bits_Mul64.f (x : Int) 1000000).bind fun b => (num_clamp.f k s b.1 b.2).bind fun t => some t) (clampS s ((x * 1000000 : Nat) : Int)) := by
    intro x hx s
    refine Ev.bindc (mul64_some x 1000000 (by omega) (by omega)) ?_
    have hdm := Nat.div_add_mod (x * 1000000) 18446744073709551616
    by_cases hz : x * 1000000 / 18446744073709551616 = 0
    · rw [hz]
      have : x * 1000000 % 18446744073709551616 = x * 1000000 := by omega
      rw [this]
      exact Ev.bind' (f := fun _ t => some t) (clamp_ev s _ (Int.natCast_nonneg _)) (Ev.now _)
    · rw [clampS_big s (by omega)]
      exact Ev.bind' (f := fun _ t => some t) (clamp_most s _ _ (by omega)) (Ev.now _)
  have e := near_of (n * 1000000)
  by_cases hn : n < 0
  · refine Ev.pos hn ?_
    have hw : IntKind.u64.wrap (-(IntKind.u64.wrap n)) = (n.natAbs : Int) := by rw [IntKind.wrap_u64, IntKind.wrap_u64]; omega
    rw [hw, ← e, show decide (n * 1000000 < 0) = true by simp; omega, show (n * 1000000).natAbs = n.natAbs * 1000000 by omega]
    exact key n.natAbs (by omega) true
  · refine Ev.neg hn ?_
    have hw : IntKind.u64.wrap n = (n.natAbs : Int) := by rw [IntKind.wrap_u64]; omega
    rw [hw, ← e, show decide (n * 1000000 < 0) = false by simp; omega, show (n * 1000000).natAbs = n.natAbs * 1000000 by omega]
    exact key n.natAbs (by omega) false

end Go.Proofs.YtcbocfgiegdhmaaDoor.Pr
