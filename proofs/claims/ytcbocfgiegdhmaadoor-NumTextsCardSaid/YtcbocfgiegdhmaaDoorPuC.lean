/- math/bits.Div64 as printed: where hi < y the quotient is that of hi * 2^64 + lo by y. -/
import Derived.Test.YtcbocfgiegdhmaaDoorPuA
import Derived.Laws.BitsAllLaws
import Derived.Lib.ItoaNum
import Derived.Test.YtcbocfgiegdhmaaDoorPr1
import Derived.Test.YtcbocfgiegdhmaaDoorPr2
namespace Go.Proofs.YtcbocfgiegdhmaaDoor.Pr
open Go Go.RowKit Go.Proofs.YtcbocfgiegdhmaaDoorW.PrintWords Go.Proofs.YtcbocfgiegdhmaaDoorW.PrintLast Go.Proofs.YtcbocfgiegdhmaaDoorW.PrintMore

/-- What a round of the estimate knows. -/
structure Est (y1 y0 u2 u1 q r : Int) : Prop where
  hy1 : 2147483648 ≤ y1
  hy1' : y1 < 4294967296
  hy0 : 0 ≤ y0
  hy0' : y0 < 4294967296
  hu2 : 0 ≤ u2
  hu2' : u2 < y1 * 4294967296 + y0
  hu1 : 0 ≤ u1
  hu1' : u1 < 4294967296
  heq : q * y1 + r = u2
  hr : 0 ≤ r
  hr' : r < 4294967296
  hlo : (u2 * 4294967296 + u1) / (y1 * 4294967296 + y0) ≤ q
  hhi : q ≤ 4294967298

theorem ediv_le_of {a b q : Int} (hb : 0 < b) (h : a / b ≤ q) : a < (q + 1) * b := by
  have h1 : a / b < q + 1 := by omega
  exact (Int.ediv_lt_iff_lt_mul hb).1 h1
theorem le_ediv_of {a b q : Int} (hb : 0 < b) (h : q * b ≤ a) : q ≤ a / b := (Int.le_ediv_iff_mul_le hb).2 h

/-- the estimate is above the quotient: a step down -/
theorem est_gt {y1 y0 u2 u1 q : Int} (hb : 0 < y1 * 4294967296 + y0) (h : u2 * 4294967296 + u1 < q * (y1 * 4294967296 + y0)) :
    (u2 * 4294967296 + u1) / (y1 * 4294967296 + y0) ≤ q - 1 := by
  have := (Int.ediv_lt_iff_lt_mul hb).2 h
  omega
theorem mul_parts (q y1 y0 : Int) : q * (y1 * 4294967296 + y0) = q * y1 * 4294967296 + q * y0 := by
  rw [Int.mul_add, ← Int.mul_assoc]

theorem est_lt_B {y1 y0 u2 u1 : Int} (hy1 : 2147483648 ≤ y1) (hy0 : 0 ≤ y0) (hu2' : u2 < y1 * 4294967296 + y0) (hu1' : u1 < 4294967296) :
    (u2 * 4294967296 + u1) / (y1 * 4294967296 + y0) < 4294967296 := by
  refine (Int.ediv_lt_iff_lt_mul (by omega)).2 ?_
  omega

theorem l0_ev (Y s y1 y0 u2 u1 u0 : Int) (R : Int × Int) (hY : Y = y1 * 4294967296 + y0)
    (hj : Ev (fun k => bits_Div64.j2 k Y s y1 y0 u2 u1 u0 ((u2 * 4294967296 + u1) / Y)) R) (n : Nat) :
    ∀ q r, Est y1 y0 u2 u1 q r → q - (u2 * 4294967296 + u1) / Y = n → Ev (fun k => bits_Div64.l0 k Y s y1 y0 u2 u1 u0 q r) R := by
  induction n with
  | zero =>
    intro q r h hn
    obtain rfl : q = (u2 * 4294967296 + u1) / Y := by omega
    have hB := est_lt_B (u1 := u1) h.hy1 h.hy0 h.hu2' h.hu1'
    rw [← hY] at hB
    refine Ev.succ ?_
    simp only [bits_Div64.l0]
    refine Ev.neg (by omega) (Ev.succ ?_)
    simp only [bits_Div64.j1]
    have hq0 : 0 ≤ (u2 * 4294967296 + u1) / Y := Int.ediv_nonneg (by have := h.hu2; have := h.hu1; omega) (by have := h.hy1; have := h.hy0; omega)
    have hle : (u2 * 4294967296 + u1) / Y * Y ≤ u2 * 4294967296 + u1 := Int.ediv_mul_le _ (by have := h.hy1; have := h.hy0; omega)
    have hm := mul_parts ((u2 * 4294967296 + u1) / Y) y1 y0
    rw [← hY] at hm
    obtain ⟨_, _, _, _, _, _, _, _, heq, hr, hr', _, _⟩ := h
    generalize hQ : (u2 * 4294967296 + u1) / Y = Q at *
    have hp0 : 0 ≤ Q * y0 := Int.mul_nonneg hq0 (by assumption)
    have hp1 : Q * y0 ≤ 4294967295 * 4294967295 := Int.mul_le_mul (by omega) (by omega) (by omega) (by omega)
    refine Ev.neg ?_ hj
    rw [wu64 (n := Q * y0) (by omega) (by omega), wu64 (n := 4294967296 * r) (by omega) (by omega), wu64 (n := 4294967296 * r + u1) (by omega) (by omega)]
    simp only [decide_eq_true_eq, gt_iff_lt, Int.not_lt]
    omega
  | succ n ih =>
    intro q r h hn
    have hB := est_lt_B (u1 := u1) h.hy1 h.hy0 h.hu2' h.hu1'
    rw [← hY] at hB
    have hYp : 0 < Y := by have := h.hy1; have := h.hy0; omega
    have hq0 : 0 ≤ (u2 * 4294967296 + u1) / Y := Int.ediv_nonneg (by have := h.hu2; have := h.hu1; omega) (by omega)
    have hgt : u2 * 4294967296 + u1 < q * Y := by
      have := Int.lt_mul_of_ediv_lt hYp (show (u2 * 4294967296 + u1) / Y < q by omega)
      exact this
    have hm := mul_parts q y1 y0
    rw [← hY] at hm
    -- the step
    have step : Ev (fun k => bits_Div64.j1 k Y s y1 y0 u2 u1 u0 q r true) R := by
      refine Ev.succ ?_
      simp only [bits_Div64.j1]
      refine Ev.pos (by simp) ?_
      have e1 : (q - 1) * y1 = q * y1 - y1 := by rw [Int.sub_mul, Int.one_mul]
      have e2 : (q - 1) * y0 = q * y0 - y0 := by rw [Int.sub_mul, Int.one_mul]
      have hlo' : (u2 * 4294967296 + u1) / Y ≤ q - 1 := by omega
      obtain ⟨g1, g2, g3, g4, g5, g6, g7, g8, heq, hr, hr', hlo, hhi⟩ := h
      rw [wu64 (n := r + y1) (by omega) (by omega), wu64 (n := q - 1) (by omega) (by omega)]
      by_cases hb : r + y1 ≥ 4294967296
      · refine Ev.pos hb ?_
        have : q - 1 = (u2 * 4294967296 + u1) / Y := by
          have hup : (q - 1) * Y ≤ u2 * 4294967296 + u1 := by
            rw [hY, mul_parts]
            have hqB : q - 1 < 4294967296 := by
              have h3 : (q - 1) * y1 < 4294967296 * y1 := by omega
              exact Int.lt_of_mul_lt_mul_right h3 (by omega)
            have hp1 : (q - 1) * y0 ≤ 4294967295 * 4294967295 := Int.mul_le_mul (by omega) (by omega) (by omega) (by omega)
            omega
          have := le_ediv_of hYp hup
          omega
        rw [this]
        exact hj
      · refine Ev.neg hb (ih (q - 1) (r + y1) ⟨g1, g2, g3, g4, g5, g6, g7, g8, by omega, by omega, by omega, by rw [← hY]; exact hlo', by omega⟩ (by omega))
    refine Ev.succ ?_
    simp only [bits_Div64.l0]
    by_cases hqB : q ≥ 4294967296
    · exact Ev.pos hqB step
    · refine Ev.neg hqB ?_
      obtain ⟨g1, g2, g3, g4, g5, g6, g7, g8, heq, hr, hr', hlo, hhi⟩ := h
      have hp0 : 0 ≤ q * y0 := Int.mul_nonneg (by omega) g3
      have hp1 : q * y0 ≤ 4294967295 * 4294967295 := Int.mul_le_mul (by omega) (by omega) (by omega) (by omega)
      rw [wu64 (n := q * y0) (by omega) (by omega), wu64 (n := 4294967296 * r) (by omega) (by omega), wu64 (n := 4294967296 * r + u1) (by omega) (by omega)]
      have : decide (q * y0 > 4294967296 * r + u1) = true := by
        rw [decide_eq_true_eq]
        omega
      rw [this]
      exact step

/-- what l1 hands back at the end -/
def l1res (Y s u0 q1 un21 Q : Int) : Int × Int :=
  (IntKind.u64.wrap ((IntKind.u64.wrap (q1 * 4294967296)) + Q), shr .u64 (IntKind.u64.wrap ((IntKind.u64.wrap ((IntKind.u64.wrap (un21 * 4294967296)) + u0)) - (IntKind.u64.wrap (Q * Y)))) s)

theorem l1_ev (Y s y1 y0 u2 u0 q1 : Int) (hs : 0 ≤ s) (hY : Y = y1 * 4294967296 + y0) (n : Nat) :
    ∀ q r, Est y1 y0 u2 u0 q r → q - (u2 * 4294967296 + u0) / Y = n → Ev (fun k => bits_Div64.l1 k Y s y1 y0 u0 q1 r u2 q) (l1res Y s u0 q1 u2 ((u2 * 4294967296 + u0) / Y)) := by
  induction n with
  | zero =>
    intro q r h hn
    obtain rfl : q = (u2 * 4294967296 + u0) / Y := by omega
    have hB := est_lt_B (u1 := u0) h.hy1 h.hy0 h.hu2' h.hu1'
    rw [← hY] at hB
    refine Ev.succ ?_
    simp only [bits_Div64.l1]
    refine Ev.neg (by omega) (Ev.succ ?_)
    simp only [bits_Div64.j4]
    have hq0 : 0 ≤ (u2 * 4294967296 + u0) / Y := Int.ediv_nonneg (by have := h.hu2; have := h.hu1; omega) (by have := h.hy1; have := h.hy0; omega)
    have hle : (u2 * 4294967296 + u0) / Y * Y ≤ u2 * 4294967296 + u0 := Int.ediv_mul_le _ (by have := h.hy1; have := h.hy0; omega)
    have hm := mul_parts ((u2 * 4294967296 + u0) / Y) y1 y0
    rw [← hY] at hm
    obtain ⟨_, _, _, _, _, _, _, _, heq, hr, hr', _, _⟩ := h
    generalize hQ : (u2 * 4294967296 + u0) / Y = Q at *
    have hp0 : 0 ≤ Q * y0 := Int.mul_nonneg hq0 (by assumption)
    have hp1 : Q * y0 ≤ 4294967295 * 4294967295 := Int.mul_le_mul (by omega) (by omega) (by omega) (by omega)
    refine Ev.neg ?_ (Ev.pos hs (Ev.const rfl))
    rw [wu64 (n := Q * y0) (by omega) (by omega), wu64 (n := 4294967296 * r) (by omega) (by omega), wu64 (n := 4294967296 * r + u0) (by omega) (by omega)]
    simp only [decide_eq_true_eq, gt_iff_lt, Int.not_lt]
    omega
  | succ n ih =>
    intro q r h hn
    have hB := est_lt_B (u1 := u0) h.hy1 h.hy0 h.hu2' h.hu1'
    rw [← hY] at hB
    have hYp : 0 < Y := by have := h.hy1; have := h.hy0; omega
    have hq0 : 0 ≤ (u2 * 4294967296 + u0) / Y := Int.ediv_nonneg (by have := h.hu2; have := h.hu1; omega) (by omega)
    have hgt : u2 * 4294967296 + u0 < q * Y := by
      have := Int.lt_mul_of_ediv_lt hYp (show (u2 * 4294967296 + u0) / Y < q by omega)
      exact this
    have hm := mul_parts q y1 y0
    rw [← hY] at hm
    have step : Ev (fun k => bits_Div64.j4 k Y s y1 y0 u0 q1 r u2 q true) (l1res Y s u0 q1 u2 ((u2 * 4294967296 + u0) / Y)) := by
      refine Ev.succ ?_
      simp only [bits_Div64.j4]
      refine Ev.pos (by simp) ?_
      have e1 : (q - 1) * y1 = q * y1 - y1 := by rw [Int.sub_mul, Int.one_mul]
      have e2 : (q - 1) * y0 = q * y0 - y0 := by rw [Int.sub_mul, Int.one_mul]
      have hlo' : (u2 * 4294967296 + u0) / Y ≤ q - 1 := by omega
      obtain ⟨g1, g2, g3, g4, g5, g6, g7, g8, heq, hr, hr', hlo, hhi⟩ := h
      rw [wu64 (n := r + y1) (by omega) (by omega), wu64 (n := q - 1) (by omega) (by omega)]
      by_cases hb : r + y1 ≥ 4294967296
      · refine Ev.pos hb (Ev.pos hs ?_)
        have : q - 1 = (u2 * 4294967296 + u0) / Y := by
          have hup : (q - 1) * Y ≤ u2 * 4294967296 + u0 := by
            rw [hY, mul_parts]
            have hqB : q - 1 < 4294967296 := by
              have h3 : (q - 1) * y1 < 4294967296 * y1 := by omega
              exact Int.lt_of_mul_lt_mul_right h3 (by omega)
            have hp1 : (q - 1) * y0 ≤ 4294967295 * 4294967295 := Int.mul_le_mul (by omega) (by omega) (by omega) (by omega)
            omega
          have := le_ediv_of hYp hup
          omega
        rw [this]
        exact Ev.const rfl
      · refine Ev.neg hb (ih (q - 1) (r + y1) ⟨g1, g2, g3, g4, g5, g6, g7, g8, by omega, by omega, by omega, by rw [← hY]; exact hlo', by omega⟩ (by omega))
    refine Ev.succ ?_
    simp only [bits_Div64.l1]
    by_cases hqB : q ≥ 4294967296
    · exact Ev.pos hqB step
    · refine Ev.neg hqB ?_
      obtain ⟨g1, g2, g3, g4, g5, g6, g7, g8, heq, hr, hr', hlo, hhi⟩ := h
      have hp0 : 0 ≤ q * y0 := Int.mul_nonneg (by omega) g3
      have hp1 : q * y0 ≤ 4294967295 * 4294967295 := Int.mul_le_mul (by omega) (by omega) (by omega) (by omega)
      rw [wu64 (n := q * y0) (by omega) (by omega), wu64 (n := 4294967296 * r) (by omega) (by omega), wu64 (n := 4294967296 * r + u0) (by omega) (by omega)]
      have : decide (q * y0 > 4294967296 * r + u0) = true := by
        rw [decide_eq_true_eq]
        omega
      rw [this]
      exact step

/-- the first estimate -/
theorem est_start {y1 y0 u2 u1 : Int} (h1 : 2147483648 ≤ y1) (h2 : y1 < 4294967296) (h3 : 0 ≤ y0) (h4 : y0 < 4294967296) (h5 : 0 ≤ u2) (h6 : u2 < y1 * 4294967296 + y0) (h7 : 0 ≤ u1) (h8 : u1 < 4294967296) :
    Est y1 y0 u2 u1 (u2 / y1) (u2 - u2 / y1 * y1) := by
  have ha := Int.ediv_mul_le u2 (show y1 ≠ 0 by omega)
  have hb := Int.lt_ediv_add_one_mul_self u2 (show 0 < y1 by omega)
  rw [Int.add_mul, Int.one_mul] at hb
  refine ⟨h1, h2, h3, h4, h5, h6, h7, h8, by omega, by omega, by omega, ?_, ?_⟩
  · have hlt : u2 * 4294967296 + u1 < (u2 / y1 + 1) * (y1 * 4294967296 + y0) := by
      rw [mul_parts, Int.add_mul, Int.one_mul]
      have : 0 ≤ (u2 / y1 + 1) * y0 := Int.mul_nonneg (by have := Int.ediv_nonneg h5 (show 0 ≤ y1 by omega); omega) h3
      omega
    have := (Int.ediv_lt_iff_lt_mul (show 0 < y1 * 4294967296 + y0 by omega)).2 hlt
    omega
  · have : u2 / y1 < 4294967298 := (Int.ediv_lt_iff_lt_mul (by omega)).2 (by omega)
    omega

theorem j2_ev (Y s y1 y0 u2 u1 u0 : Int) (hs : 0 ≤ s) (hY : Y = y1 * 4294967296 + y0) (h1 : 2147483648 ≤ y1) (h2 : y1 < 4294967296) (h3 : 0 ≤ y0) (h4 : y0 < 4294967296) (h5 : 0 ≤ u2) (h6 : u2 < Y)
    (h7 : 0 ≤ u1) (h8 : u1 < 4294967296) (h9 : 0 ≤ u0) (h10 : u0 < 4294967296) :
    ∃ r, Ev (fun k => bits_Div64.j2 k Y s y1 y0 u2 u1 u0 ((u2 * 4294967296 + u1) / Y)) (((u2 * 4294967296 + u1) * 4294967296 + u0) / Y, r) := by
  have hYp : 0 < Y := by omega
  have hB := est_lt_B (u2 := u2) (u1 := u1) h1 h3 (by omega) h8
  rw [← hY] at hB
  have hq0 : 0 ≤ (u2 * 4294967296 + u1) / Y := Int.ediv_nonneg (by omega) (by omega)
  have hle : (u2 * 4294967296 + u1) / Y * Y ≤ u2 * 4294967296 + u1 := Int.ediv_mul_le _ (by omega)
  have hlt := Int.lt_ediv_add_one_mul_self (u2 * 4294967296 + u1) hYp
  rw [Int.add_mul, Int.one_mul] at hlt
  generalize hQ : (u2 * 4294967296 + u1) / Y = Q at *
  -- the remainder, though its parts wrap
  have hrem : IntKind.u64.wrap ((IntKind.u64.wrap ((IntKind.u64.wrap (u2 * 4294967296)) + u1)) - (IntKind.u64.wrap (Q * Y))) = u2 * 4294967296 + u1 - Q * Y := by
    simp only [IntKind.wrap_u64]
    generalize Q * Y = M at *
    omega
  obtain ⟨v, hv⟩ : ∃ v, v = u2 * 4294967296 + u1 - Q * Y := ⟨_, rfl⟩
  have hv0 : 0 ≤ v := by omega
  have hv1 : v < Y := by omega
  have hB2 := est_lt_B (u2 := v) (u1 := u0) h1 h3 (by omega) h10
  rw [← hY] at hB2
  have hq2 : 0 ≤ (v * 4294967296 + u0) / Y := Int.ediv_nonneg (by omega) (by omega)
  have htot : ((u2 * 4294967296 + u1) * 4294967296 + u0) / Y = Q * 4294967296 + (v * 4294967296 + u0) / Y := by
    have e : (u2 * 4294967296 + u1) * 4294967296 + u0 = (v * 4294967296 + u0) + Q * 4294967296 * Y := by
      have : Q * 4294967296 * Y = Q * Y * 4294967296 := by rw [Int.mul_assoc, Int.mul_comm 4294967296 Y, ← Int.mul_assoc]
      rw [this]
      generalize Q * Y = M at *
      omega
    rw [e, Int.add_mul_ediv_right _ _ (by omega)]
    omega
  have he := est_start (u2 := v) (u1 := u0) h1 h2 h3 h4 hv0 (by omega) h9 h10
  have hl := l1_ev Y s y1 y0 v u0 Q hs hY _ _ _ he (show v / y1 - (v * 4294967296 + u0) / Y = ((v / y1 - (v * 4294967296 + u0) / Y).toNat : Int) by
    have := he.hlo
    rw [← hY] at this
    omega)
  refine ⟨(l1res Y s u0 Q v ((v * 4294967296 + u0) / Y)).2, Ev.succ ?_⟩
  simp only [bits_Div64.j2]
  refine Ev.neg (by omega) ?_
  have hvd : 0 ≤ v / y1 := Int.ediv_nonneg hv0 (by omega)
  have hvd2 := he.hhi
  have hvm := he.hr
  have hvm2 := he.hr'
  have hmm : 0 ≤ v / y1 * y1 := Int.mul_nonneg hvd (by omega)
  rw [hrem, ← hv, Int.tdiv_eq_ediv_of_nonneg hv0, wu64 (n := v / y1) (by omega) (by omega), wu64 (n := v / y1 * y1) (by omega) (by omega), wu64 (n := v - v / y1 * y1) (by omega) (by omega)]
  have hfst : (l1res Y s u0 Q v ((v * 4294967296 + u0) / Y)).1 = ((u2 * 4294967296 + u1) * 4294967296 + u0) / Y := by
    simp only [l1res]
    rw [wu64 (n := Q * 4294967296) (by omega) (by omega), wu64 (by omega) (by omega), htot]
  rw [← hfst]
  exact hl

end Go.Proofs.YtcbocfgiegdhmaaDoor.Pr
