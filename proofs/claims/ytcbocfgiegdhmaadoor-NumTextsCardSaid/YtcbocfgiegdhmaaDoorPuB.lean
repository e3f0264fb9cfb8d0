/- num: sizes, clamps and sums, as plain integers. -/
import Derived.Test.YtcbocfgiegdhmaaDoorPuA
import Derived.Test.YtcbocfgiegdhmaaDoorPr1
import Derived.Test.YtcbocfgiegdhmaaDoorPr8
namespace Go.Proofs.YtcbocfgiegdhmaaDoor.Pr
open Go.RowKit Go.Proofs.YtcbocfgiegdhmaaDoorW.PrintWords Go.Proofs.YtcbocfgiegdhmaaDoorW.PrintLast Go.Proofs.YtcbocfgiegdhmaaDoorW.PrintMore

def clampS (neg : Bool) (n : Int) : Int := if neg then -(if n < 4611686018427387903 then n else 4611686018427387903) else (if n < 4611686018427387903 then n else 4611686018427387903)
/-- the nearest number of the language -/
def near (n : Int) : Int := if n < -4611686018427387903 then -4611686018427387903 else if 4611686018427387903 < n then 4611686018427387903 else n

theorem clamp_ev (neg : Bool) (n : Int) (h0 : 0 ≤ n) : Ev (fun k => num_clamp.f k neg 0 n) (clampS neg n) := by
  refine ⟨1, fun k hk => ?_⟩
  obtain ⟨k, rfl⟩ : ∃ m, k = m + 1 := ⟨k - 1, by omega⟩
  unfold num_clamp.f clampS
  simp only [if_true, num_clamp.j0]
  by_cases h : n < 4611686018427387903
  · simp only [h, decide_true, if_true]
    cases neg
    · simp [w64 (n := n) (by omega) (by omega)]
    · simp [w64 (n := n) (by omega) (by omega), w64 (n := -n) (by omega) (by omega)]
  · simp only [h, decide_false]
    cases neg <;> simp [wrap64]
theorem clamp_most (neg : Bool) (hi n : Int) (h : hi ≠ 0) : Ev (fun k => num_clamp.f k neg hi n) (clampS neg 4611686018427387903) := by
  refine ⟨1, fun k hk => ?_⟩
  obtain ⟨k, rfl⟩ : ∃ m, k = m + 1 := ⟨k - 1, by omega⟩
  unfold num_clamp.f clampS
  simp only [if_neg h, num_clamp.j0]
  cases neg <;> simp [wrap64]
theorem size_some (a : Int) (h0 : -9223372036854775807 ≤ a) (h1 : a ≤ 9223372036854775807) : num_size.f a = some (a.natAbs : Int) := by
  unfold num_size.f
  split
  · rw [w64 (by omega) (by omega), wu64 (by omega) (by omega)]; congr 1; omega
  · rw [wu64 (by omega) (by omega)]; congr 1; omega
theorem near_of (n : Int) : clampS (decide (n < 0)) (n.natAbs : Int) = near n := by
  unfold clampS near
  by_cases h : n < 0
  · simp only [h, decide_true, if_true]; split <;> split <;> (try split) <;> omega
  · simp only [h, decide_false, Bool.false_eq_true, if_false]; split <;> split <;> (try split) <;> omega

def fitI (a : Int) : Prop := -4611686018427387903 ≤ a ∧ a ≤ 4611686018427387903
theorem fit_yes (a : Int) (h : fitI a) : scribelaw05_fit.f a = some true := by
  unfold scribelaw05_fit.f
  rw [if_pos h.1]; simp [h.2]
theorem fit_no (a : Int) (h : ¬ fitI a) : scribelaw05_fit.f a = some false := by
  unfold fitI at h
  unfold scribelaw05_fit.f
  split
  · simp; omega
  · rfl

theorem add_ev (a b : Int) (ha : fitI a) (hb : fitI b) : Ev (fun k => num_Add.f k a b) (near (a + b)) := by
  unfold fitI at ha hb
  unfold num_Add.f
  rw [w64 (by omega) (by omega)]
  refine Ev.bindc (size_some _ (by omega) (by omega)) ?_
  refine Ev.bind' (f := fun _ t => some t) (clamp_ev _ _ (by omega)) ?_
  rw [near_of]
  exact Ev.now _
theorem sub_ev (a b : Int) (ha : fitI a) (hb : fitI b) : Ev (fun k => num_Sub.f k a b) (near (a - b)) := by
  unfold fitI at ha hb
  unfold num_Sub.f
  rw [w64 (by omega) (by omega)]
  refine Ev.bindc (size_some _ (by omega) (by omega)) ?_
  refine Ev.bind' (f := fun _ t => some t) (clamp_ev _ _ (by omega)) ?_
  rw [near_of]
  exact Ev.now _

theorem fit_near (n : Int) : fitI (near n) := by unfold fitI near; split <;> (try split) <;> omega
theorem near_fit (n : Int) (h : fitI n) : near n = n := by unfold fitI at h; unfold near; rw [if_neg (by omega), if_neg (by omega)]
theorem awake_ev : Ev (fun k => scribelaw05_awake.f k) true := Ev.of (fun k => scribelaw05_awake.mono k) (k := 60) (by decide +kernel)

end Go.Proofs.YtcbocfgiegdhmaaDoor.Pr
