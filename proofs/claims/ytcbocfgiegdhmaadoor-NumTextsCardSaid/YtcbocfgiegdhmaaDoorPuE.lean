/- num: products and quotients, as plain integers. -/
import Derived.Test.YtcbocfgiegdhmaaDoorPuB
import Derived.Test.YtcbocfgiegdhmaaDoorPuD
import Derived.Test.YtcbocfgiegdhmaaDoorPr1
import Derived.Test.YtcbocfgiegdhmaaDoorPr3
import Derived.Test.YtcbocfgiegdhmaaDoorPr12
namespace Go.Proofs.YtcbocfgiegdhmaaDoor.Pr
open Go Go.RowKit Go.Proofs.YtcbocfgiegdhmaaDoorW.PrintWords Go.Proofs.YtcbocfgiegdhmaaDoorW.PrintLast Go.Proofs.YtcbocfgiegdhmaaDoorW.PrintMore

def parted (a b : Int) : Bool := decide (a < 0) != decide (b < 0)
def mulS (a b : Int) : Int := clampS (parted a b) ((a.natAbs * b.natAbs / 1000000 : Nat) : Int)
def divS (a b : Int) : Int := clampS (parted a b) ((a.natAbs * 1000000 / b.natAbs : Nat) : Int)

theorem clampS_big (neg : Bool) {n : Int} (h : 4611686018427387903 ≤ n) : clampS neg n = clampS neg 4611686018427387903 := by
  unfold clampS
  rw [if_neg (show ¬ n < 4611686018427387903 by omega), if_neg (show ¬ (4611686018427387903 : Int) < 4611686018427387903 by omega)]
theorem mul64_some (x y : Nat) (hx : x < 18446744073709551616) (hy : y < 18446744073709551616) :
    bits_Mul64.f (x : Int) (y : Int) = some (((x * y / 18446744073709551616 : Nat) : Int), ((x * y % 18446744073709551616 : Nat) : Int)) := by
  unfold bits_Mul64.f
  rw [if_pos (by omega), if_pos (by omega), if_pos (by omega), if_pos (by omega), Int.toNat_natCast, Int.toNat_natCast]
/-- four ways of the signs -/
theorem signs_ev {α : Type} (a b : Int) (g : Bool → Nat → Option α) (r : α) (h : Ev (g (parted a b)) r) :
    Ev (fun k => if a < 0 then (if b < 0 then g false k else g true k) else (if b < 0 then g true k else g false k)) r := by
  unfold parted at h
  by_cases ha : a < 0
  · refine Ev.pos ha ?_
    by_cases hb : b < 0
    · refine Ev.pos hb ?_; simpa [ha, hb] using h
    · refine Ev.neg hb ?_; simpa [ha, hb] using h
  · refine Ev.neg ha ?_
    by_cases hb : b < 0
    · refine Ev.pos hb ?_; simpa [ha, hb] using h
    · refine Ev.neg hb ?_; simpa [ha, hb] using h

theorem mul_ev (a b : Int) (ha : fitI a) (hb : fitI b) : Ev (fun k => num_Mul.f k a b) (mulS a b) := by
  unfold fitI at ha hb
  unfold num_Mul.f
  refine Ev.bindc (size_some a (by omega) (by omega)) (Ev.bindc (size_some b (by omega) (by omega)) ?_)
  refine Ev.bindc (mul64_some _ _ (by omega) (by omega)) ?_
  have hdm := Nat.div_add_mod (a.natAbs * b.natAbs) 18446744073709551616
  have hlt := Nat.mod_lt (a.natAbs * b.natAbs) (show 0 < 18446744073709551616 by omega)
  unfold mulS
  generalize a.natAbs * b.natAbs = P at *
  by_cases h : P / 18446744073709551616 ≥ 1000000
  · refine Ev.pos (by simp only; omega) ?_
    refine signs_ev a b (fun s k => (num_clamp.f k s 1 0).bind fun t => some t) _ ?_
    rw [clampS_big _ (by omega)]
    exact Ev.bind' (f := fun _ t => some t) (clamp_most _ 1 0 (by omega)) (Ev.now _)
  · refine Ev.neg (by simp only; omega) ?_
    obtain ⟨r, hr⟩ := div64_ev (P / 18446744073709551616) (P % 18446744073709551616) 1000000 (by omega) hlt (by omega)
    rw [show P / 18446744073709551616 * 18446744073709551616 + P % 18446744073709551616 = P by omega] at hr
    refine Ev.bind' hr ?_
    refine signs_ev a b (fun s k => (num_clamp.f k s 0 ((P / 1000000 : Nat) : Int)).bind fun t => some t) _ ?_
    exact Ev.bind' (f := fun _ t => some t) (clamp_ev _ _ (by omega)) (Ev.now _)

theorem div_ev (a b : Int) (ha : fitI a) (hb : fitI b) (h0 : b ≠ 0) : Ev (fun k => num_Div.f k a b) (divS a b, 0) := by
  unfold fitI at ha hb
  unfold num_Div.f
  refine Ev.neg h0 ?_
  refine Ev.bindc (size_some a (by omega) (by omega)) (Ev.bindc (mul64_some _ 1000000 (by omega) (by omega)) (Ev.bindc (size_some b (by omega) (by omega)) ?_))
  have hdm := Nat.div_add_mod (a.natAbs * 1000000) 18446744073709551616
  have hlt := Nat.mod_lt (a.natAbs * 1000000) (show 0 < 18446744073709551616 by omega)
  unfold divS
  have hy : 0 < b.natAbs := by omega
  have hy2 : b.natAbs < 18446744073709551616 := by omega
  generalize a.natAbs * 1000000 = P at *
  generalize hY : b.natAbs = y at *
  by_cases h : P / 18446744073709551616 ≥ y
  · refine Ev.pos (by simp only; omega) ?_
    refine signs_ev a b (fun s k => (num_clamp.f k s 1 0).bind fun t => some (t, 0)) _ ?_
    have hq : 18446744073709551616 ≤ P / y := by
      refine (Nat.le_div_iff_mul_le hy).2 ?_
      have : 18446744073709551616 * y ≤ 18446744073709551616 * (P / 18446744073709551616) := Nat.mul_le_mul_left _ h
      omega
    rw [clampS_big _ (by omega)]
    exact Ev.bind' (f := fun _ t => some (t, 0)) (clamp_most _ 1 0 (by omega)) (Ev.now _)
  · refine Ev.neg (by simp only; omega) ?_
    obtain ⟨r, hr⟩ := div64_ev (P / 18446744073709551616) (P % 18446744073709551616) y (by omega) hlt hy2
    rw [show P / 18446744073709551616 * 18446744073709551616 + P % 18446744073709551616 = P by omega] at hr
    refine Ev.bindc (by rw [size_some b (by omega) (by omega), hY]) (Ev.bind' hr ?_)
    refine signs_ev a b (fun s k => (num_clamp.f k s 0 ((P / y : Nat) : Int)).bind fun t => some (t, 0)) _ ?_
    exact Ev.bind' (f := fun _ t => some (t, 0)) (clamp_ev _ _ (Int.natCast_nonneg _)) (Ev.now _)
theorem div_zero (a : Int) : Ev (fun k => num_Div.f k a 0) (0, 16) := by
  unfold num_Div.f
  exact Ev.pos rfl (Ev.now _)
theorem fit_clampS (s : Bool) (n : Int) (h : 0 ≤ n) : fitI (clampS s n) := by
  unfold fitI clampS
  repeat' split
  all_goals omega

end Go.Proofs.YtcbocfgiegdhmaaDoor.Pr
