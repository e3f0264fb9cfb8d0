/- What a reader makes of bytes: digits, a number, a text; what a writer makes of a number, a text: in plain lists. -/
import Derived.Test.YtghabadccaghcaaDoorPuDg
namespace Go.Proofs.YtghabadccaghcaaDoor.Pr
open Go Go.RowKit Go.Proofs.YtghabadccaghcaaDoorW.PrintWords Go.Proofs.YtghabadccaghcaaDoorW.PrintLast Go.Proofs.YtghabadccaghcaaDoorW.PrintMore

/-- digits behind c of them, the number so far v (z: the first one is '0'): the number, how many digits, the error -/
def digS : List UInt8 → Nat → Bool → Nat → Nat × Nat × Nat
  | [], c, _, v => (v, c, 2)
  | x :: r, c, z, v =>
    if isDig x = true then (if 19 ≤ c ∨ (c = 1 ∧ z = true) then (v, c, 3) else digS r (c + 1) (if c = 0 then decide (x.toNat = 48) else z) (10 * v + (x.toNat - 48)))
    else (v, c, if c = 0 then 3 else 0)
theorem digS_le (r : List UInt8) : ∀ c z v, c ≤ (digS r c z v).2.1 ∧ (digS r c z v).2.1 ≤ c + r.length := by
  induction r with
  | nil => intro c z v; simp [digS]
  | cons x r ih =>
    intro c z v
    rw [digS]
    split
    · split
      · simp
      · have := ih (c + 1) (if c = 0 then decide (x.toNat = 48) else z) (10 * v + (x.toNat - 48))
        simp only [List.length_cons]
        omega
    · simp
theorem isDig_iff (x : UInt8) : isDig x = true ↔ 48 ≤ x.toNat ∧ x.toNat ≤ 57 := by unfold isDig; simp
theorem dig_eta (x : UInt8) (h : isDig x = true) : UInt8.ofNat (48 + (x.toNat - 48)) = x := by
  have := (isDig_iff x).1 h
  apply UInt8.toNat_inj.1
  rw [ofNat_dig _ (by omega)]
  omega
/-- One spelling: the digits that were read are the number's own. -/
theorem digS_back (r : List UInt8) : ∀ (c : Nat) (z : Bool) (v : Nat) (p : List UInt8), v < 10 ^ c → c ≤ 19 → ((c = 0 ∧ v = 0 ∧ p = []) ∨ (1 ≤ c ∧ Lib.decDigits v = p ∧ p.length = c ∧ (z = true → c = 1) ∧ (z = false → 0 < v))) →
    (digS r c z v).2.2 = 0 → p ++ r.take ((digS r c z v).2.1 - c) = Lib.decDigits (digS r c z v).1 ∧ (Lib.decDigits (digS r c z v).1).length = (digS r c z v).2.1 ∧ (digS r c z v).1 < 10 ^ 19 ∧ (∃ y s, r.drop ((digS r c z v).2.1 - c) = y :: s ∧ isDig y = false) := by
  induction r with
  | nil => intro c z v p _ _ _ h; simp [digS] at h
  | cons x r ih =>
    intro c z v p hv hc hp h
    rw [digS] at h ⊢
    by_cases hx : isDig x = true
    · rw [if_pos hx] at h ⊢
      by_cases hb : 19 ≤ c ∨ (c = 1 ∧ z = true)
      · rw [if_pos hb] at h; simp at h
      · rw [if_neg hb] at h ⊢
        have hd := (isDig_iff x).1 hx
        have hle := digS_le r (c + 1) (if c = 0 then decide (x.toNat = 48) else z) (10 * v + (x.toNat - 48))
        have hv2 : 10 * v + (x.toNat - 48) < 10 ^ (c + 1) := by rw [Nat.pow_succ]; omega
        have hi := ih (c + 1) (if c = 0 then decide (x.toNat = 48) else z) (10 * v + (x.toNat - 48)) (p ++ [x]) hv2 (by omega) (.inr ?_) h
        · obtain ⟨h1, h2, h3, h4⟩ := hi
          have e : (digS r (c + 1) (if c = 0 then decide (x.toNat = 48) else z) (10 * v + (x.toNat - 48))).2.1 - c = (digS r (c + 1) (if c = 0 then decide (x.toNat = 48) else z) (10 * v + (x.toNat - 48))).2.1 - (c + 1) + 1 := by omega
          rw [e, List.take_succ_cons, List.drop_succ_cons]
          refine ⟨?_, h2, h3, h4⟩
          rw [← h1, List.append_assoc]
          rfl
        · rcases hp with ⟨rfl, rfl, rfl⟩ | ⟨h1, h2, h3, h4, h5⟩
          · refine ⟨by omega, ?_, rfl, fun _ => rfl, fun hz => ?_⟩
            · rw [Nat.mul_zero, Nat.zero_add, dec_one _ (by omega), dig_eta x hx]; rfl
            · rw [if_pos rfl] at hz
              have : x.toNat ≠ 48 := by simpa using hz
              omega
          · have hz : z = false := by
              cases hz : z with
              | false => rfl
              | true => exact absurd (Or.inr ⟨h4 hz, hz⟩) hb
            have hv0 := h5 hz
            refine ⟨by omega, ?_, by rw [List.length_append, h3]; rfl, fun hz2 => ?_, fun _ => by omega⟩
            · rw [dec_snoc _ (by omega), show (10 * v + (x.toNat - 48)) / 10 = v by omega, show (10 * v + (x.toNat - 48)) % 10 = x.toNat - 48 by omega, dig_eta x hx, h2]
            · rw [if_neg (by omega), hz] at hz2
              exact absurd hz2 (by simp)
    · rw [if_neg hx] at h ⊢
      rcases hp with ⟨rfl, rfl, rfl⟩ | ⟨h1, h2, h3, h4, h5⟩
      · simp at h
      · simp only [Nat.sub_self, List.take_zero, List.append_nil, List.drop_zero]
        refine ⟨h2.symm, by rw [h2, h3], Nat.lt_of_lt_of_le hv (Nat.pow_le_pow_right (by omega) hc), x, r, rfl, by simpa using hx⟩
theorem nDigits_pow (n : Nat) : ∀ v, 1 ≤ n → v < 10 ^ n → Lib.nDigits v ≤ n := by
  induction n with
  | zero => intro v h; omega
  | succ n ih =>
    intro v _ hv
    by_cases h10 : v < 10
    · rw [Lib.nDigits_small h10]; omega
    · rw [Lib.nDigits_big h10]
      have hn : n ≠ 0 := by rintro rfl; omega
      have := ih (v / 10) (by omega) (by rw [Nat.pow_succ] at hv; omega)
      omega
/-- A number's own digits are read as that number. -/
theorem digS_run (v : Nat) : ∀ r, v < 10 ^ 19 → digS (Lib.decDigits v ++ r) 0 false 0 = digS r (Lib.decDigits v).length (decide (v = 0)) v := by
  induction v using Nat.strongRecOn with
  | _ v ih =>
    intro r hv
    by_cases h10 : v < 10
    · rw [dec_one v h10, List.singleton_append, digS, if_pos ((isDig_iff _).2 (by rw [ofNat_dig v h10]; omega)), if_neg (by omega), if_pos rfl, ofNat_dig v h10]
      simp only [List.length_singleton, Nat.zero_add, Nat.mul_zero]
      rw [show 48 + v - 48 = v by omega]
      congr 1
      by_cases h0 : v = 0
      · simp [h0]
      · simp [h0]
    · have hq : v / 10 < 10 ^ 18 := by omega
      have hl : (Lib.decDigits (v / 10)).length ≤ 18 := by
        rw [Lib.decDigits_length]
        exact nDigits_pow 18 _ (by omega) hq
      rw [dec_snoc v h10, List.append_assoc, ih (v / 10) (by omega) _ (by omega), List.singleton_append, digS, if_pos ((isDig_iff _).2 (by rw [ofNat_dig _ (by omega)]; omega)), if_neg (by simp; omega), ofNat_dig _ (by omega)]
      have hpos : 0 < (Lib.decDigits (v / 10)).length := by rw [Lib.decDigits_length]; exact Lib.nDigits_pos _
      rw [if_neg (by omega), List.length_append, List.length_singleton, show 10 * (v / 10) + (48 + v % 10 - 48) = v by omega, show decide (v / 10 = 0) = decide (v = 0) by simp; omega]
theorem digS_dec (v : Nat) (x : UInt8) (r : List UInt8) (hv : v < 10 ^ 19) (hx : isDig x = false) : digS (Lib.decDigits v ++ x :: r) 0 false 0 = (v, (Lib.decDigits v).length, 0) := by
  have hpos : 0 < (Lib.decDigits v).length := by rw [Lib.decDigits_length]; exact Lib.nDigits_pos _
  rw [digS_run v _ hv, digS, if_neg (by rw [hx]; simp), if_neg (by omega)]

def intL (n : Int) : List UInt8 := 105 :: (Lib.itoa n ++ [59])
def textL (s : List UInt8) : List UInt8 := Lib.decDigits s.length ++ 58 :: s
/-- a number that stands here: the number, how many bytes were taken, the error -/
def intS (r : List UInt8) : Int × Nat × Nat :=
  match r with
  | [] => (0, 0, 2)
  | x :: r1 =>
    if x ≠ 105 then (0, 0, 3) else
    let m : Nat := if r1.head? = some 45 then 1 else 0
    let D := digS (r1.drop m) 0 false 0
    if D.2.2 ≠ 0 then (0, 1 + m + D.2.1, D.2.2) else
    if 9223372036854775808 < D.1 ∨ (m = 0 ∧ D.1 = 9223372036854775808) ∨ (m = 1 ∧ D.1 = 0) then (0, 1 + m + D.2.1, 3) else
    match (r1.drop m).drop D.2.1 with
    | [] => (0, 1 + m + D.2.1, 2)
    | y :: _ => if y ≠ 59 then (0, 1 + m + D.2.1, 3) else (if m = 1 then -(D.1 : Int) else D.1, 1 + m + D.2.1 + 1, 0)
/-- a text that stands here, of at most so many bytes -/
def textS (most : Int) (r : List UInt8) : List UInt8 × Nat × Nat :=
  let D := digS r 0 false 0
  if D.2.2 ≠ 0 then ([], D.2.1, D.2.2) else
  if (D.1 : Int) > max most 0 then ([], D.2.1, 12) else
  match r.drop D.2.1 with
  | [] => ([], D.2.1, 2)
  | y :: s => if y ≠ 58 then ([], D.2.1, 3) else if s.length < D.1 then ([], D.2.1 + 1, 2) else (s.take D.1, D.2.1 + 1 + D.1, 0)
end Go.Proofs.YtghabadccaghcaaDoor.Pr
