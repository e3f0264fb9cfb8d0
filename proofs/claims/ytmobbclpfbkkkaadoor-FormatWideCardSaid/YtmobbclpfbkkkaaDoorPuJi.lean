/- num: a whole number. -/
import Derived.Test.YtmobbclpfbkkkaaDoorPuE0
import Derived.Test.YtmobbclpfbkkkaaDoorPr8
import Derived.Test.YtmobbclpfbkkkaaDoorPr18
namespace Go.Proofs.YtmobbclpfbkkkaaDoor.Pr
open Go Go.RowKit Go.Proofs.YtmobbclpfbkkkaaDoorW.PrintWords Go.Proofs.YtmobbclpfbkkkaaDoorW.PrintLast Go.Proofs.YtmobbclpfbkkkaaDoorW.PrintMore

theorem int_ev (n : Int) (h0 : -9223372036854775808 ≤ n) (h1 : n ≤ 9223372036854775807) : Ev (fun k => num_Int.f k n) (near (n * 1000000)) := by
  unfold num_Int.f
  have key : ∀ (x : Nat), x ≤ 9223372036854775808 → ∀ s : Bool, Ev (fun k => (bits_Mul64.f (x : Int) 1000000).bind fun b => (num_clamp.f k s b.1 b.2).bind fun t => some t) (clampS s ((x * 1000000 : Nat) : Int)) := by
    intro x hx s
    refine Ev.bindc (mul64_some x 1000000 (by omega) (by omega)) ?_
    have hdm := Nat.div_add_mod (x * 1000000) 18446744073709551616
    by_cases hz : x * 1000000 / 18446744073709551616 = 0
    · rw [hz]
      have : x * 1000000 % 18446744073709551616 = x * 1000000 := by omega
      rw [this]
      exact Ev.bind' (f := fun _ t => some t) (clamp_ev s _ (Int.natCast_nonneg _)) (Ev.now _)
    · rw [clampS_big s (by omega)]
      exact Ev.bind' (f := fun _ t => some t) (clamp_most s _ _ (by omega)) (Ev.now _)
  have e := near_of (n * 1000000)
  by_cases hn : n < 0
  · refine Ev.pos hn ?_
    have hw : IntKind.u64.wrap (-(IntKind.u64.wrap n)) = (n.natAbs : Int) := by rw [IntKind.wrap_u64, IntKind.wrap_u64]; omega
    rw [hw, ← e, show decide (n * 1000000 < 0) = true by simp; omega, show (n * 1000000).natAbs = n.natAbs * 1000000 by omega]
    exact key n.natAbs (by omega) true
  · refine Ev.neg hn ?_
    have hw : IntKind.u64.wrap n = (n.natAbs : Int) := by rw [IntKind.wrap_u64]; omega
    rw [hw, ← e, show decide (n * 1000000 < 0) = false by simp; omega, show (n * 1000000).natAbs = n.natAbs * 1000000 by omega]
    exact key n.natAbs (by omega) false

end Go.Proofs.YtmobbclpfbkkkaaDoor.Pr
