/- num: products of sizes. -/
import Derived.Test.YtmobbclpfbkkkaaDoorPuB0
import Derived.Test.YtmobbclpfbkkkaaDoorPr18
namespace Go.Proofs.YtmobbclpfbkkkaaDoor.Pr
open Go Go.RowKit Go.Proofs.YtmobbclpfbkkkaaDoorW.PrintWords Go.Proofs.YtmobbclpfbkkkaaDoorW.PrintLast Go.Proofs.YtmobbclpfbkkkaaDoorW.PrintMore

theorem clampS_big (neg : Bool) {n : Int} (h : 4611686018427387903 ≤ n) : clampS neg n = clampS neg 4611686018427387903 := by
  unfold clampS
  rw [if_neg (show ¬ n < 4611686018427387903 by omega), if_neg (show ¬ (4611686018427387903 : Int) < 4611686018427387903 by omega)]
theorem mul64_some (x y : Nat) (hx : x < 18446744073709551616) (hy : y < 18446744073709551616) :
    bits_Mul64.f (x : Int) (y : Int) = some (((x * y / 18446744073709551616 : Nat) : Int), ((x * y % 18446744073709551616 : Nat) : Int)) := by
  unfold bits_Mul64.f
  rw [if_pos (by omega), if_pos (by omega), if_pos (by omega), if_pos (by omega), Int.toNat_natCast, Int.toNat_natCast]

end Go.Proofs.YtmobbclpfbkkkaaDoor.Pr
