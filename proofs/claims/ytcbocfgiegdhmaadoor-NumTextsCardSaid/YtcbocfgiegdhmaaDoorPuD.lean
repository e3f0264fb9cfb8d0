/- math/bits.Div64 as printed: the quotient. -/
import Derived.Test.YtcbocfgiegdhmaaDoorPuC
import Derived.Test.YtcbocfgiegdhmaaDoorPr1
import Derived.Test.YtcbocfgiegdhmaaDoorPr2
namespace Go.Proofs.YtcbocfgiegdhmaaDoor.Pr
open Go Go.RowKit Go.Proofs.YtcbocfgiegdhmaaDoorW.PrintWords Go.Proofs.YtcbocfgiegdhmaaDoorW.PrintLast Go.Proofs.YtcbocfgiegdhmaaDoorW.PrintMore

theorem div_core (Y u2 L s : Nat) (hY1 : 9223372036854775808 ≤ Y) (hY2 : Y < 18446744073709551616) (hu : u2 < Y) (hL : L < 18446744073709551616) :
    ∃ r, Ev (fun k => bits_Div64.l0 k (Y : Int) (s : Int) ((Y : Int) / 4294967296) ((Y % 4294967296 : Nat) : Int) (u2 : Int) ((L : Int) / 4294967296) ((L % 4294967296 : Nat) : Int)
      (IntKind.u64.wrap (Int.tdiv (u2 : Int) ((Y : Int) / 4294967296))) (IntKind.u64.wrap ((u2 : Int) - IntKind.u64.wrap (IntKind.u64.wrap (Int.tdiv (u2 : Int) ((Y : Int) / 4294967296)) * ((Y : Int) / 4294967296)))))
      (((u2 * 18446744073709551616 + L) / Y : Nat), r) := by
  obtain ⟨y1, hy1⟩ : ∃ y1, y1 = (Y : Int) / 4294967296 := ⟨_, rfl⟩
  obtain ⟨y0, hy0⟩ : ∃ y0, y0 = ((Y % 4294967296 : Nat) : Int) := ⟨_, rfl⟩
  obtain ⟨u1, hu1⟩ : ∃ u1, u1 = (L : Int) / 4294967296 := ⟨_, rfl⟩
  obtain ⟨u0, hu0⟩ : ∃ u0, u0 = ((L % 4294967296 : Nat) : Int) := ⟨_, rfl⟩
  have eY : (Y : Int) = y1 * 4294967296 + y0 := by omega
  have eL : (L : Int) = u1 * 4294967296 + u0 := by omega
  have g1 : 2147483648 ≤ y1 := by omega
  have g2 : y1 < 4294967296 := by omega
  have g3 : 0 ≤ y0 := by omega
  have g4 : y0 < 4294967296 := by omega
  have g5 : (0 : Int) ≤ u2 := by omega
  have g6 : (u2 : Int) < Y := by omega
  have g7 : 0 ≤ u1 := by omega
  have g8 : u1 < 4294967296 := by omega
  have g9 : 0 ≤ u0 := by omega
  have g10 : u0 < 4294967296 := by omega
  have e0 : (((u2 * 18446744073709551616 + L) / Y : Nat) : Int) = (((u2 : Int) * 4294967296 + u1) * 4294967296 + u0) / (Y : Int) := by
    rw [Int.natCast_ediv]
    have : ((u2 * 18446744073709551616 + L : Nat) : Int) = ((u2 : Int) * 4294967296 + u1) * 4294967296 + u0 := by omega
    rw [this]
  rw [e0, ← hy1, ← hy0, ← hu1, ← hu0]
  clear e0 hy1 hy0 hu1 hu0 eL hY1 hY2 hu hL
  obtain ⟨r, hr⟩ := j2_ev (Y : Int) (s : Int) y1 y0 (u2 : Int) u1 u0 (by omega) eY g1 g2 g3 g4 g5 g6 g7 g8 g9 g10
  rw [eY] at g6
  have hest := est_start g1 g2 g3 g4 g5 g6 g7 g8
  have hlo := hest.hlo
  rw [← eY] at hlo
  have hl := l0_ev (Y : Int) (s : Int) y1 y0 (u2 : Int) u1 u0 _ eY hr _ _ _ hest (Int.toNat_of_nonneg (Int.sub_nonneg_of_le hlo)).symm
  refine ⟨r, ?_⟩
  have hd0 : (0 : Int) ≤ (u2 : Int) / y1 := Int.ediv_nonneg g5 (by omega)
  have hd1 := hest.hhi
  have hd2 := hest.hr
  have hd3 := hest.hr'
  have hd4 : 0 ≤ (u2 : Int) / y1 * y1 := Int.mul_nonneg hd0 (by omega)
  clear hest hlo hr
  rw [Int.tdiv_eq_ediv_of_nonneg g5, wu64 (n := (u2 : Int) / y1) hd0 (by omega), wu64 (n := (u2 : Int) / y1 * y1) hd4 (by omega), wu64 (n := (u2 : Int) - (u2 : Int) / y1 * y1) hd2 (by omega)]
  exact hl

theorem div64_ev (hi lo y : Nat) (hhi : hi < y) (hlo : lo < 18446744073709551616) (hy : y < 18446744073709551616) :
    ∃ r, Ev (fun k => bits_Div64.f k hi lo y) (((hi * 18446744073709551616 + lo) / y : Nat), r) := by
  unfold bits_Div64.f
  by_cases h0 : hi = 0
  · subst h0
    refine ⟨Int.tmod (lo : Int) (y : Int), Ev.neg (by omega) (Ev.neg (by omega) (Ev.pos (by simp) (Ev.const ?_)))⟩
    rw [Int.tdiv_eq_ediv_of_nonneg (by omega), wu64 (Int.ediv_nonneg (by omega) (by omega)) (by
      have : (lo : Int) / y ≤ lo := Int.ediv_le_self _ (by omega)
      omega)]
    simp
  · -- the shift
    have hyn : y ≠ 0 := by omega
    obtain ⟨hb1, hb2, hb3⟩ := Lib.bitLenAux_bounds 64 y hy hyn
    have hb4 : Lib.bitLen y ≤ 64 := Lib.bitLen_le y 64 (Nat.le_refl _) hy
    have hbd : Lib.bitLenAux 64 y = Lib.bitLen y := rfl
    rw [hbd] at hb1 hb2 hb3
    obtain ⟨s, hs⟩ : ∃ s, s = 64 - Lib.bitLen y := ⟨_, rfl⟩
    have hpow : 2 ^ Lib.bitLen y * 2 ^ s = 18446744073709551616 := by rw [← Nat.pow_add]; rw [show Lib.bitLen y + s = 64 by omega]
    have hpow1 : 2 ^ (Lib.bitLen y - 1) * 2 ^ s = 9223372036854775808 := by rw [← Nat.pow_add]; rw [show Lib.bitLen y - 1 + s = 63 by omega]
    have hsp : 0 < 2 ^ s := Nat.two_pow_pos s
    have hYlt : y * 2 ^ s < 18446744073709551616 := by rw [← hpow]; exact Nat.mul_lt_mul_of_pos_right hb3 hsp
    have hYge : 9223372036854775808 ≤ y * 2 ^ s := by rw [← hpow1]; exact Nat.mul_le_mul_right _ hb2
    have hHlt : hi * 2 ^ s < y * 2 ^ s := Nat.mul_lt_mul_of_pos_right hhi hsp
    have hpc : 2 ^ (64 - s) * 2 ^ s = 18446744073709551616 := by rw [← Nat.pow_add]; rw [show 64 - s + s = 64 by omega]
    -- lo >> (64 - s)
    have hlq : lo / 2 ^ (64 - s) = lo * 2 ^ s / 18446744073709551616 := by
      rw [← hpc]; exact (Nat.mul_div_mul_right _ _ hsp).symm
    have hlqlt : lo / 2 ^ (64 - s) < 2 ^ s := by
      refine (Nat.div_lt_iff_lt_mul (Nat.two_pow_pos _)).2 ?_
      rw [Nat.mul_comm, hpc]; exact hlo
    have hlz : bits_LeadingZeros64.f (y : Int) = some (s : Int) := by
      unfold bits_LeadingZeros64.f
      rw [if_pos (by omega), if_pos (by omega), Int.toNat_natCast]
      congr 1; omega
    have hw : IntKind.u64.wrap (s : Int) = s := wu64 (by omega) (by omega)
    have hw2 : IntKind.u64.wrap (64 - (s : Int)) = ((64 - s : Nat) : Int) := by rw [wu64 (by omega) (by omega)]; omega
    have hb64 : IntKind.u64.bits = 64 := rfl
    have hshl : ∀ x : Nat, shl .u64 (x : Int) (s : Int) = ((x * 2 ^ s % 18446744073709551616 : Nat) : Int) := by
      intro x
      unfold shl
      rw [hb64, Int.toNat_natCast, Nat.min_eq_left (by omega), IntKind.wrap_u64]
      rw [Int.natCast_emod, Int.natCast_mul, Int.natCast_pow]
      rfl
    have hshr : shr .u64 (lo : Int) ((64 - s : Nat) : Int) = ((lo / 2 ^ (64 - s) : Nat) : Int) := by
      unfold shr
      rw [hb64, Int.toNat_natCast, Nat.min_eq_left (by omega), Int.natCast_ediv, Int.natCast_pow]
      rfl
    have hor : Go.bits .or .u64 ((hi * 2 ^ s % 18446744073709551616 : Nat) : Int) ((lo / 2 ^ (64 - s) : Nat) : Int) = ((hi * 2 ^ s + lo / 2 ^ (64 - s) : Nat) : Int) := by
      rw [Nat.mod_eq_of_lt (by omega)]
      have hl64 : lo / 2 ^ (64 - s) < 18446744073709551616 := by have := Nat.div_le_self lo (2 ^ (64 - s)); omega
      rw [u64_or_nat _ _ (by omega) hl64]
      congr 1
      exact nat_join s _ _ (Nat.mul_mod_left _ _) hlqlt
    have hand : ∀ x : Nat, x < 18446744073709551616 → Go.bits .and .u64 (x : Int) 4294967295 = ((x % 4294967296 : Nat) : Int) := by
      intro x hx
      rw [show (4294967295 : Int) = ((4294967295 : Nat) : Int) from rfl, u64_and_nat _ _ hx (by omega)]
      congr 1
      exact Nat.and_two_pow_sub_one_eq_mod x 32
    have hmodY : y * 2 ^ s % 18446744073709551616 = y * 2 ^ s := Nat.mod_eq_of_lt hYlt
    obtain ⟨Y, hYd⟩ : ∃ Y, Y = y * 2 ^ s := ⟨_, rfl⟩
    obtain ⟨u2, hu2⟩ : ∃ u2, u2 = hi * 2 ^ s + lo / 2 ^ (64 - s) := ⟨_, rfl⟩
    obtain ⟨L, hL⟩ : ∃ L, L = lo * 2 ^ s % 18446744073709551616 := ⟨_, rfl⟩
    have hLlt : L < 18446744073709551616 := by rw [hL]; exact Nat.mod_lt _ (by omega)
    have hu2lt : u2 < Y := by
      have h1 : hi * 2 ^ s + 2 ^ s ≤ y * 2 ^ s := by
        have : (hi + 1) * 2 ^ s ≤ y * 2 ^ s := Nat.mul_le_mul_right _ hhi
        rw [Nat.add_mul, Nat.one_mul] at this
        exact this
      omega
    have hU : u2 * 18446744073709551616 + L = (hi * 18446744073709551616 + lo) * 2 ^ s := by
      have h1 : (hi * 18446744073709551616 + lo) * 2 ^ s = hi * 2 ^ s * 18446744073709551616 + lo * 2 ^ s := by
        rw [Nat.add_mul, Nat.mul_assoc, Nat.mul_comm 18446744073709551616, ← Nat.mul_assoc]
      have h2 := Nat.div_add_mod (lo * 2 ^ s) 18446744073709551616
      rw [h1, hu2, hlq, hL, Nat.add_mul]
      omega
    have hquo : (hi * 18446744073709551616 + lo) / y = (u2 * 18446744073709551616 + L) / Y := by
      rw [hU, hYd]; exact (Nat.mul_div_mul_right _ _ hsp).symm
    obtain ⟨r, hr⟩ := div_core Y u2 L s (by omega) (by omega) hu2lt hLlt
    refine ⟨r, Ev.neg (by omega) (Ev.neg (by omega) (Ev.neg (by omega) (Ev.bindc hlz ?_)))⟩
    rw [hw, hw2, hshl y, hshl hi, hshl lo, hshr, hor, hmodY, ← hYd, ← hu2, ← hL, hand Y (by omega), hand L (by omega), hquo]
    exact Ev.pos (by omega) (Ev.pos (by omega) (Ev.neg (by omega) hr))

end Go.Proofs.YtcbocfgiegdhmaaDoor.Pr
