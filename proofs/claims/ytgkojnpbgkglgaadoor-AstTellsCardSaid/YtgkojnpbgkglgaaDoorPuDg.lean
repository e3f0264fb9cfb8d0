/- A number's decimal digits; the document's Digits. -/
import Derived.Test.YtgkojnpbgkglgaaDoorPuF
import Derived.Lib.LazyBuf
import Derived.Lib.ItoaLen
import Derived.Test.YtgkojnpbgkglgaaDoorPr8
namespace Go.Proofs.YtgkojnpbgkglgaaDoor.Pr
open Go Go.RowKit Go.Proofs.YtgkojnpbgkglgaaDoorW.PrintWords Go.Proofs.YtgkojnpbgkglgaaDoorW.PrintLast Go.Proofs.YtgkojnpbgkglgaaDoorW.PrintMore

theorem nDigits_le (u : Nat) (h : u < 18446744073709551616) : Lib.nDigits u ≤ 20 := by
  by_cases h0 : u = 0
  · subst h0; rw [Lib.nDigits_small (by omega)]; omega
  · have := Lib.numDigits_eq u (by omega) h; split at this <;> omega
def isDig (c : UInt8) : Bool := decide (48 ≤ c.toNat) && decide (c.toNat ≤ 57)
theorem ofNat_dig (d : Nat) (h : d < 10) : (UInt8.ofNat (48 + d)).toNat = 48 + d := by
  rw [UInt8.toNat_ofNat']; exact Nat.mod_eq_of_lt (by omega)
theorem dec_snoc (u : Nat) (h : ¬ u < 10) : Lib.decDigits u = Lib.decDigits (u / 10) ++ [UInt8.ofNat (48 + u % 10)] := by
  rw [Lib.decDigits, dif_neg h]
theorem dec_one (u : Nat) (h : u < 10) : Lib.decDigits u = [UInt8.ofNat (48 + u)] := Lib.decDigits_one h
theorem dec_dig (u : Nat) : ∀ c ∈ Lib.decDigits u, isDig c = true := by
  induction u using Nat.strongRecOn with
  | _ u ih =>
    intro c hc
    by_cases h : u < 10
    · rw [dec_one u h, List.mem_singleton] at hc
      subst hc
      unfold isDig; rw [ofNat_dig u h]; simp; omega
    · rw [dec_snoc u h, List.mem_append, List.mem_singleton] at hc
      rcases hc with hc | rfl
      · exact ih (u / 10) (by omega) c hc
      · unfold isDig; rw [ofNat_dig _ (by omega)]; simp; omega
theorem strOfNums_one (d : Nat) (h : d < 10) : strOfNums [(((48 + d : Nat) : Int))] = B [UInt8.ofNat (48 + d)] := by
  have : [(((48 + d : Nat) : Int))] = [UInt8.ofNat (48 + d)].map (fun b => (b.toNat : Int)) := by
    simp only [List.map_cons, List.map_nil]
    rw [ofNat_dig d h]
  rw [this, Lib.Lz.strOfNums_map]
  rfl
theorem digits_loop (n : Nat) : ∀ (s : List UInt8) (i : Nat), n < 18446744073709551616 → i + Lib.nDigits n ≤ 20 → s.length + Lib.nDigits n ≤ 100 →
    Ev (fun k => scriberef01_Digits.l0 k (n : Int) (B s) (i : Int)) (B ((if i = 0 ∨ 0 < n then Lib.decDigits n else []) ++ s)) := by
  induction n using Nat.strongRecOn with
  | _ n ih =>
    intro s i hn hi hs
    have hp := Lib.nDigits_pos n
    have hw1 : wrap64 ((i : Int) + 1) = ((i + 1 : Nat) : Int) := by rw [w64 (by omega) (by omega)]; omega
    have hq : IntKind.u64.wrap (Int.tdiv (n : Int) 10) = ((n / 10 : Nat) : Int) := by
      rw [Int.tdiv_eq_ediv_of_nonneg (by omega), wu64 (by omega) (by omega)]; rfl
    have hr : IntKind.u64.wrap (48 + Int.tmod (n : Int) 10) % 256 = ((48 + n % 10 : Nat) : Int) := by
      rw [Int.tmod_eq_emod_of_nonneg (by omega), wu64 (by omega) (by omega)]; omega
    have step : Ev (fun k => (some (([(IntKind.u64.wrap (48 + (Int.tmod (n : Int) 10))) % 256] : List Int) : List Int)).bind fun y => if (strOfNums y).size + (B s).size ≤ 9223372036854775807 then scriberef01_Digits.l0 k (IntKind.u64.wrap (Int.tdiv (n : Int) 10)) ((strOfNums y) ++ B s) (wrap64 ((i : Int) + 1)) else none) (B (Lib.decDigits n ++ s)) := by
      refine Ev.bindc rfl ?_
      rw [hr, strOfNums_one _ (by omega), hq, hw1, B_append]
      refine Ev.pos (by rw [B_size, B_size, List.length_singleton]; omega) ?_
      by_cases h10 : n < 10
      · have e : n / 10 = 0 := by omega
        rw [e, dec_one n h10, show n % 10 = n by omega]
        refine Ev.succ ?_
        simp only [scriberef01_Digits.l0]
        by_cases h20 : i + 1 < 20
        · refine Ev.pos (by omega) (Ev.neg (by omega) (Ev.neg (by omega) (Ev.now _)))
        · exact Ev.neg (by omega) (Ev.now _)
      · rw [Lib.nDigits_big h10] at hi hs
        have := ih (n / 10) (by omega) ([UInt8.ofNat (48 + n % 10)] ++ s) (i + 1) (by omega) (by omega) (by rw [List.length_append, List.length_singleton]; omega)
        rw [if_pos (Or.inr (by omega))] at this
        rw [dec_snoc n h10, List.append_assoc]
        exact this
    refine Ev.succ ?_
    simp only [scriberef01_Digits.l0]
    refine Ev.pos (by omega) ?_
    by_cases h0 : i = 0
    · rw [if_pos (Or.inl h0)]
      exact Ev.pos (by omega) step
    · refine Ev.neg (by omega) ?_
      by_cases hn0 : 0 < n
      · rw [if_pos (Or.inr hn0)]
        exact Ev.pos (by omega) step
      · rw [if_neg (by omega)]
        exact Ev.neg (by omega) (Ev.now _)

theorem digits_ev (n : Nat) (h : n < 18446744073709551616) : Ev (fun k => scriberef01_Digits.f k (n : Int)) (B (Lib.decDigits n)) := by
  have hd := nDigits_le n h
  have := digits_loop n [] 0 h (by omega) (by simp; omega)
  rw [if_pos (Or.inl rfl), List.append_nil] at this
  exact this
end Go.Proofs.YtgkojnpbgkglgaaDoor.Pr
