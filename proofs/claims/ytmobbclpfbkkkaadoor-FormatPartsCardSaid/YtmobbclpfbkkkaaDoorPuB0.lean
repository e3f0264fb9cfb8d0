/- num: sizes and clamps, as plain integers. -/
import Derived.Test.YtmobbclpfbkkkaaDoorPuA
import Derived.Test.YtmobbclpfbkkkaaDoorPr2
import Derived.Test.YtmobbclpfbkkkaaDoorPr8
namespace Go.Proofs.YtmobbclpfbkkkaaDoor.Pr
open Go Go.RowKit Go.Proofs.YtmobbclpfbkkkaaDoorW.PrintWords Go.Proofs.YtmobbclpfbkkkaaDoorW.PrintLast Go.Proofs.YtmobbclpfbkkkaaDoorW.PrintMore

def clampS (neg : Bool) (n : Int) : Int := if neg then -(if n < 4611686018427387903 then n else 4611686018427387903) else (if n < 4611686018427387903 then n else 4611686018427387903)
/-- the nearest number of the language -/
def near (n : Int) : Int := if n < -4611686018427387903 then -4611686018427387903 else if 4611686018427387903 < n then 4611686018427387903 else n

theorem clamp_ev (neg : Bool) (n : Int) (h0 : 0 ≤ n) : Ev (fun k => num_clamp.f k neg 0 n) (clampS neg n) := by
  refine ⟨1, fun k hk => ?_⟩
  obtain ⟨k, rfl⟩ : ∃ m, k = m + 1 := ⟨k - 1, by omega⟩
  unfold num_clamp.f clampS
  simp only [if_true, num_clamp.j0]
  by_cases h : n < 4611686018427387903
  · simp only [h, decide_true, if_true]
    cases neg
    · simp [w64 (n := n) (by omega) (by omega)]
    · simp [w64 (n := n) (by omega) (by omega), w64 (n := -n) (by omega) (by omega)]
  · simp only [h, decide_false]
    cases neg <;> simp [wrap64]
theorem clamp_most (neg : Bool) (hi n : Int) (h : hi ≠ 0) : Ev (fun k => num_clamp.f k neg hi n) (clampS neg 4611686018427387903) := by
  refine ⟨1, fun k hk => ?_⟩
  obtain ⟨k, rfl⟩ : ∃ m, k = m + 1 := ⟨k - 1, by omega⟩
  unfold num_clamp.f clampS
  simp only [if_neg h, num_clamp.j0]
  cases neg <;> simp [wrap64]
theorem size_some (a : Int) (h0 : -9223372036854775807 ≤ a) (h1 : a ≤ 9223372036854775807) : num_size.f a = some (a.natAbs : Int) := by
  unfold num_size.f
  split
  · rw [w64 (by omega) (by omega), wu64 (by omega) (by omega)]; congr 1; omega
  · rw [wu64 (by omega) (by omega)]; congr 1; omega
theorem near_of (n : Int) : clampS (decide (n < 0)) (n.natAbs : Int) = near n := by
  unfold clampS near
  by_cases h : n < 0
  · simp only [h, decide_true, if_true]; split <;> split <;> (try split) <;> omega
  · simp only [h, decide_false, Bool.false_eq_true, if_false]; split <;> split <;> (try split) <;> omega

def fitI (a : Int) : Prop := -4611686018427387903 ≤ a ∧ a ≤ 4611686018427387903
theorem fit_near (n : Int) : fitI (near n) := by unfold fitI near; split <;> (try split) <;> omega
theorem near_fit (n : Int) (h : fitI n) : near n = n := by unfold fitI at h; unfold near; rw [if_neg (by omega), if_neg (by omega)]

end Go.Proofs.YtmobbclpfbkkkaaDoor.Pr
