/- regex: what is in a set, bit by bit; the words of a set are told by what is in it; plain Lean. -/
import Derived.Test.YthlffghlkggimaaPuRxOk
import Derived.Laws.Bits64
import Derived.Laws.Bits64b
set_option linter.unusedVariables false
set_option linter.unusedSimpArgs false
namespace Go.Proofs.Ythlffghlkggimaa.Pr
open Go Go.RowKit Go.Proofs.YthlffghlkggimaaW.PrintWords Go.Proofs.YthlffghlkggimaaW.PrintLast Go.Proofs.YthlffghlkggimaaW.PrintMore
def bitS (w : RSet) (c : Nat) : Bool := (nthW w.f0 w.f1 w.f2 w.f3 (c / 64)).toNat.testBit (c % 64)
theorem okW_nat {a : Int} (h : okW a) : ∃ n : Nat, a = (n : Int) ∧ n < 18446744073709551616 := by
 obtain ⟨h0, h1⟩ := h
 exact ⟨a.toNat, by omega, by omega⟩
theorem orU_bit {a : Int} (h : okW a) (n m : Nat) (hn : n < 64) (hm : m < 64) : (orU a n).toNat.testBit m = (a.toNat.testBit m || decide (m = n)) := by
 obtain ⟨x, rfl, hx⟩ := okW_nat h
 unfold orU
 have hp : 2 ^ n < 18446744073709551616 := by
  have : 2 ^ n < 2 ^ 64 := Nat.pow_lt_pow_right (by omega) hn
  simpa using this
 have hw : IntKind.u64.wrap ((2 : Int) ^ n) = ((2 ^ n : Nat) : Int) := by
  rw [show ((2 : Int) ^ n) = ((2 ^ n : Nat) : Int) by simp, IntKind.wrap_u64]
  generalize (2 : Nat) ^ n = y at hp ⊢
  omega
 rw [hw, bits_or_u64_nat x (2 ^ n) hx hp, Int.toNat_natCast, Int.toNat_natCast, Nat.testBit_or, Nat.testBit_two_pow]
 congr 1
 exact decide_eq_decide.2 eq_comm
theorem notU_bit {a : Int} (h : okW a) (m : Nat) (hm : m < 64) : (notU a).toNat.testBit m = !(a.toNat.testBit m) := by
 obtain ⟨x, rfl, hx⟩ := okW_nat h
 unfold notU
 have hmax : IntKind.u64.max = ((18446744073709551615 : Nat) : Int) := by decide
 rw [hmax, bits_xor_u64_nat _ x (by omega) hx, Int.toNat_natCast, Int.toNat_natCast, Nat.testBit_xor]
 have : (18446744073709551615 : Nat).testBit m = true := by
  have e : (18446744073709551615 : Nat) = 2 ^ 64 - 1 := by decide
  rw [e, Nat.testBit_two_pow_sub_one]
  exact decide_eq_true hm
 rw [this]
 simp
theorem notU_notU {a : Int} (h : okW a) : notU (notU a) = a := by
 obtain ⟨x, rfl, hx⟩ := okW_nat h
 unfold notU
 have hmax : IntKind.u64.max = ((18446744073709551615 : Nat) : Int) := by decide
 have hlt : 18446744073709551615 ^^^ x < 18446744073709551616 := by
  have := Nat.xor_lt_two_pow (n := 64) (x := 18446744073709551615) (y := x) (by decide) (by simpa using hx)
  simpa using this
 rw [hmax, bits_xor_u64_nat _ x (by omega) hx, bits_xor_u64_nat _ _ (by omega) hlt, ← Nat.xor_assoc, Nat.xor_self, Nat.zero_xor]
theorem not_not (w : RSet) (h : okS w) : notW (notW w) = w := by
 obtain ⟨h0, h1, h2, h3⟩ := h
 unfold notW
 simp only [notU_notU h0, notU_notU h1, notU_notU h2, notU_notU h3]
theorem quarter (c : Nat) (h : c < 256) : (c / 64 = 0 ∧ c < 64) ∨ (c / 64 = 1 ∧ 64 ≤ c ∧ c < 128) ∨ (c / 64 = 2 ∧ 128 ≤ c ∧ c < 192) ∨ (c / 64 = 3 ∧ 192 ≤ c) := by omega
theorem bit_with (w : RSet) (h : okS w) (x c : Nat) (hx : x < 256) (hc : c < 256) : bitS (withW w (x : Int)) c = (bitS w c || decide (c = x)) := by
 obtain ⟨h0, h1, h2, h3⟩ := h
 have hmod : (((x : Int) % 64)).toNat = x % 64 := by omega
 have same : ∀ a : Int, okW a → c / 64 = x / 64 → (orU a (x % 64)).toNat.testBit (c % 64) = (a.toNat.testBit (c % 64) || decide (c = x)) := by
  intro a ha e
  rw [orU_bit ha _ _ (by omega) (by omega)]
  congr 1
  apply decide_eq_decide.2
  omega
 have other : ∀ b : Bool, c / 64 ≠ x / 64 → b = (b || decide (c = x)) := by
  intro b e
  rw [decide_eq_false (by intro h; rw [h] at e; exact e rfl), Bool.or_false]
 unfold withW bitS
 rcases quarter x hx with ⟨hq, hr⟩ | ⟨hq, hr, hr'⟩ | ⟨hq, hr, hr'⟩ | ⟨hq, hr⟩
 ·rw [if_pos (by omega), hmod]
  rcases quarter c hc with ⟨hd, _⟩ | ⟨hd, _⟩ | ⟨hd, _⟩ | ⟨hd, _⟩ <;> rw [hd] <;> simp only [nthW]
  ·exact same _ h0 (by omega)
  all_goals exact other _ (by omega)
 ·rw [if_neg (by omega), if_pos (by omega), hmod]
  rcases quarter c hc with ⟨hd, _⟩ | ⟨hd, _⟩ | ⟨hd, _⟩ | ⟨hd, _⟩ <;> rw [hd] <;> simp only [nthW]
  ·exact other _ (by omega)
  ·exact same _ h1 (by omega)
  all_goals exact other _ (by omega)
 ·rw [if_neg (by omega), if_neg (by omega), if_pos (by omega), hmod]
  rcases quarter c hc with ⟨hd, _⟩ | ⟨hd, _⟩ | ⟨hd, _⟩ | ⟨hd, _⟩ <;> rw [hd] <;> simp only [nthW]
  ·exact other _ (by omega)
  ·exact other _ (by omega)
  ·exact same _ h2 (by omega)
  ·exact other _ (by omega)
 ·rw [if_neg (by omega), if_neg (by omega), if_neg (by omega), hmod]
  rcases quarter c hc with ⟨hd, _⟩ | ⟨hd, _⟩ | ⟨hd, _⟩ | ⟨hd, _⟩ <;> rw [hd] <;> simp only [nthW]
  ·exact other _ (by omega)
  ·exact other _ (by omega)
  ·exact other _ (by omega)
  ·exact same _ h3 (by omega)
theorem bit_not (w : RSet) (h : okS w) (c : Nat) (hc : c < 256) : bitS (notW w) c = !(bitS w c) := by
 obtain ⟨h0, h1, h2, h3⟩ := h
 unfold notW bitS
 rcases quarter c hc with ⟨hd, _⟩ | ⟨hd, _⟩ | ⟨hd, _⟩ | ⟨hd, _⟩ <;> rw [hd] <;> simp only [nthW]
 ·exact notU_bit h0 _ (by omega)
 ·exact notU_bit h1 _ (by omega)
 ·exact notU_bit h2 _ (by omega)
 ·exact notU_bit h3 _ (by omega)
theorem bit_zero (c : Nat) : bitS zW c = false := by
 unfold bitS zW
 have : nthW 0 0 0 0 (c / 64) = 0 := by unfold nthW; split <;> rfl
 rw [this]
 simp
def foldW (l : List UInt8) : RSet := l.foldl (fun w c => withW w (c.toNat : Int)) zW
def memb (l : List UInt8) (c : Nat) : Bool := l.any fun x => x.toNat == c
theorem fold_ok (l : List UInt8) : okS (foldW l) := by
 unfold foldW
 have : ∀ w, okS w → okS (l.foldl (fun w c => withW w (c.toNat : Int)) w) := by
  induction l with
  | nil => intro w h; exact h
  | cons a l ih => intro w h; exact ih _ (okS_with h _)
 exact this _ okS_zero
theorem foldW_snoc (l : List UInt8) (c : UInt8) : foldW (l ++ [c]) = withW (foldW l) (c.toNat : Int) := by simp [foldW]
theorem memb_snoc (l : List UInt8) (x : UInt8) (c : Nat) : memb (l ++ [x]) c = (memb l c || decide (c = x.toNat)) := by
 unfold memb
 rw [List.any_append]
 congr 1
 simp only [List.any_cons, List.any_nil, Bool.or_false]
 rw [Bool.eq_iff_iff]
 simp only [beq_iff_eq, decide_eq_true_eq]
 exact eq_comm
theorem bit_fold (l : List UInt8) (c : Nat) (hc : c < 256) : bitS (foldW l) c = memb l c := by
 have : ∀ n, n ≤ l.length → bitS (foldW (l.take n)) c = memb (l.take n) c := by
  intro n
  induction n with
  | zero => intro _; rw [List.take_zero]; exact bit_zero c
  | succ n ih =>
   intro h
   rw [List.take_succ_eq_append_getElem (by omega), foldW_snoc, memb_snoc, bit_with _ (fold_ok _) _ _ (UInt8.toNat_lt _) hc, ih (by omega)]
 have h := this l.length (Nat.le_refl _)
 rwa [List.take_length] at h
theorem has_ev (w : RSet) (h : okS w) (c : Nat) (hc : c < 256) : regex_Set_Has.f w.f0 w.f1 w.f2 w.f3 (c : Int) = some (bitS w c) := by
 obtain ⟨h0, h1, h2, h3⟩ := h
 have hmod : (((c : Int) % 64)).toNat = c % 64 := by omega
 have hu : ∀ a : Int, okW a → hasU a (c % 64) = a.toNat.testBit (c % 64) := by
  intro a ha
  obtain ⟨x, rfl, hx⟩ := okW_nat ha
  unfold hasU
  have hd : ((x : Int) / 2 ^ (c % 64)) = ((x / 2 ^ (c % 64) : Nat) : Int) := by simp
  have hlt : x / 2 ^ (c % 64) < 18446744073709551616 := Nat.lt_of_le_of_lt (Nat.div_le_self _ _) hx
  rw [hd, show (1 : Int) = ((1 : Nat) : Int) from rfl, bits_and_u64_nat _ 1 hlt (by decide), Int.toNat_natCast, Nat.and_one_is_mod, Nat.testBit_eq_decide_div_mod_eq]
  rw [Bool.eq_iff_iff]
  simp
  omega
 unfold regex_Set_Has.f bitS
 rw [if_pos ⟨h0.1, h1.1, h2.1, h3.1⟩, if_pos (by omega), hmod]
 rcases quarter c hc with ⟨hd, _⟩ | ⟨hd, _⟩ | ⟨hd, _⟩ | ⟨hd, _⟩
 ·rw [if_pos (by omega), hd, hu _ h0]; rfl
 ·rw [if_neg (by omega), if_pos (by omega), hd, hu _ h1]; rfl
 ·rw [if_neg (by omega), if_neg (by omega), if_pos (by omega), hd, hu _ h2]; rfl
 ·rw [if_neg (by omega), if_neg (by omega), if_neg (by omega), if_pos (by omega), hd, hu _ h3]; rfl
end Go.Proofs.Ythlffghlkggimaa.Pr
