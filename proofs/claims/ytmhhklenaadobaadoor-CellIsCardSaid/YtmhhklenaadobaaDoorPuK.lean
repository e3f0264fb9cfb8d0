/- The document's numbers: digits, a text's number, as functions on lists of bytes. -/
import Derived.Test.YtmhhklenaadobaaDoorPuJ0
import Derived.Lib.LazyBuf
import Derived.Test.YtmhhklenaadobaaDoorPr18
import Derived.Test.YtmhhklenaadobaaDoorPr19
import Derived.Test.YtmhhklenaadobaaDoorPr23
namespace Go.Proofs.YtmhhklenaadobaaDoor.Pr
open Go Go.RowKit Go.Proofs.YtmhhklenaadobaaDoorW.PrintWords Go.Proofs.YtmhhklenaadobaaDoorW.PrintLast Go.Proofs.YtmhhklenaadobaaDoorW.PrintMore

theorem strOfNums_one (d : Nat) (h : d < 10) : strOfNums [(((48 + d : Nat) : Int))] = B [UInt8.ofNat (48 + d)] := by
  have : [(((48 + d : Nat) : Int))] = [UInt8.ofNat (48 + d)].map (fun b => (b.toNat : Int)) := by
    simp only [List.map_cons, List.map_nil]
    rw [ofNat_dig d h]
  rw [this, Lib.Lz.strOfNums_map]
  rfl
theorem digits_loop (n : Nat) : ∀ (s : List UInt8) (i : Nat), n < 18446744073709551616 → i + Lib.nDigits n ≤ 20 → s.length + Lib.nDigits n ≤ 100 →
    Ev (fun k => scriberef01_Digits.l0 k (n : Int) (B s) (i : Int)) (B ((if i = 0 ∨ 0 < n then Lib.decDigits n else []) ++ s)) := by
  induction n using Nat.strongRecOn with
  | _ n ih =>
    intro s i hn hi hs
    have hp := Lib.nDigits_pos n
    have hw1 : wrap64 ((i : Int) + 1) = ((i + 1 : Nat) : Int) := by rw [w64 (by omega) (by omega)]; omega
    have hq : IntKind.u64.wrap (Int.tdiv (n : Int) 10) = ((n / 10 : Nat) : Int) := by
      rw [Int.tdiv_eq_ediv_of_nonneg (by omega), wu64 (by omega) (by omega)]; rfl
    have hr : IntKind.u64.wrap (48 + Int.tmod (n : Int) 10) % 256 = ((48 + n % 10 : Nat) : Int) := by
      rw [Int.tmod_eq_emod_of_nonneg (by omega), wu64 (by omega) (by omega)]; omega
    have step : Ev (fun k => (some (([(IntKind.u64.wrap (48 + (Int.tmod (n : Int) 10))) % 256] : List Int) : List Int)).bind fun y => if (strOfNums y).size + (B s).size ≤ 9223372036854775807 then scriberef01_Digits.l0 k (IntKind.u64.wrap (Int.tdiv (n : Int) 10)) ((strOfNums y) ++ B s) (wrap64 ((i : Int) + 1)) else none) (B (Lib.decDigits n ++ s)) := by
      refine Ev.bindc rfl ?_
      rw [hr, strOfNums_one _ (by omega), hq, hw1, B_append]
      refine Ev.pos (by rw [B_size, B_size, List.length_singleton]; omega) ?_
      by_cases h10 : n < 10
      · have e : n / 10 = 0 := by omega
        rw [e, dec_one n h10, show n % 10 = n by omega]
        refine Ev.succ ?_
        simp only [scriberef01_Digits.l0]
        by_cases h20 : i + 1 < 20
        · refine Ev.pos (by omega) (Ev.neg (by omega) (Ev.neg (by omega) (Ev.now _)))
        · exact Ev.neg (by omega) (Ev.now _)
      · rw [Lib.nDigits_big h10] at hi hs
        have := ih (n / 10) (by omega) ([UInt8.ofNat (48 + n % 10)] ++ s) (i + 1) (by omega) (by omega) (by rw [List.length_append, List.length_singleton]; omega)
        rw [if_pos (Or.inr (by omega))] at this
        rw [dec_snoc n h10, List.append_assoc]
        exact this
    refine Ev.succ ?_
    simp only [scriberef01_Digits.l0]
    refine Ev.pos (by omega) ?_
    by_cases h0 : i = 0
    · rw [if_pos (Or.inl h0)]
      exact Ev.pos (by omega) step
    · refine Ev.neg (by omega) ?_
      by_cases hn0 : 0 < n
      · rw [if_pos (Or.inr hn0)]
        exact Ev.pos (by omega) step
      · rw [if_neg (by omega)]
        exact Ev.neg (by omega) (Ev.now _)

theorem digits_ev (n : Nat) (h : n < 18446744073709551616) : Ev (fun k => scriberef01_Digits.f k (n : Int)) (B (Lib.decDigits n)) := by
  have hd := nDigits_le n h
  have := digits_loop n [] 0 h (by omega) (by simp; omega)
  rw [if_pos (Or.inl rfl), List.append_nil] at this
  exact this
theorem Size_some (a : Int) (h0 : -9223372036854775808 ≤ a) (h1 : a ≤ 9223372036854775807) : scriberef05_Size.f a = some (a.natAbs : Int) := by
  unfold scriberef05_Size.f
  split
  · rw [w64 (n := a + 1) (by omega) (by omega), w64 (n := -(a + 1)) (by omega) (by omega), wu64 (n := -(a + 1)) (by omega) (by omega), wu64 (by omega) (by omega)]; congr 1; omega
  · rw [wu64 (by omega) (by omega)]; congr 1; omega

/-- the number that digits write, behind `a` -/
def valF : List UInt8 → Nat → Nat
  | [], a => a
  | c :: r, a => valF r (10 * a + (c.toNat - 48))
theorem valF_le (r : List UInt8) : ∀ a, a ≤ valF r a := by
  induction r with
  | nil => intro a; exact Nat.le_refl _
  | cons c r ih => intro a; rw [valF]; have := ih (10 * a + (c.toNat - 48)); omega
theorem valF_append (l m : List UInt8) : ∀ a, valF (l ++ m) a = valF m (valF l a) := by
  induction l with
  | nil => intro a; rfl
  | cons c l ih => intro a; rw [List.cons_append, valF, ih, valF]
theorem signed_loop (l : List UInt8) (neg : Bool) (hd : ∀ c ∈ l, isDig c = true) (hl : l.length ≤ 2000000) (r : List UInt8) : ∀ (i a : Nat), l.drop i = r → i ≤ l.length → a ≤ 4611686018427387903 →
    Ev (fun k => scriberef05_Signed.l0 k neg (B l) (a : Int) (i : Int)) (clampS neg ((valF r a : Nat) : Int)) := by
  have most : ∀ n : Nat, 4611686018427387903 ≤ n → ∀ g : Nat → Option Int, (∀ k, g k = if neg = true then some (-4611686018427387903) else some 4611686018427387903) → Ev g (clampS neg (n : Int)) := by
    intro n hn g hg
    refine Ev.congr hg (Ev.const ?_)
    unfold clampS
    rw [if_neg (show ¬ (n : Int) < 4611686018427387903 by omega)]
    cases neg <;> rfl
  induction r with
  | nil =>
    intro i a hr hi ha
    have := drop_nil hr
    refine Ev.succ ?_
    simp only [scriberef05_Signed.l0]
    refine Ev.neg (by rw [B_size]; omega) (Ev.const ?_)
    rw [w64 (n := (a : Int)) (by omega) (by omega), w64 (n := -(a : Int)) (by omega) (by omega), valF]
    have e : (if (a : Int) < 4611686018427387903 then (a : Int) else 4611686018427387903) = (a : Int) := by split <;> omega
    unfold clampS
    rw [e]
    cases neg <;> rfl
  | cons c r ih =>
    intro i a hr hi ha
    obtain ⟨hb, hil, hr'⟩ := bt_drop hr
    have hc : isDig c = true := hd c (by have : c ∈ l.drop i := by rw [hr]; simp
                                         exact List.mem_of_mem_drop this)
    have hc2 : 48 ≤ c.toNat ∧ c.toNat ≤ 57 := by unfold isDig at hc; simpa using hc
    have hw1 : wrap64 ((i : Int) + 1) = ((i + 1 : Nat) : Int) := by rw [w64 (by omega) (by omega)]; omega
    have hv := valF_le r (10 * a + (c.toNat - 48))
    refine Ev.succ ?_
    simp only [scriberef05_Signed.l0, hb, hw1]
    refine Ev.pos (by rw [B_size]; omega) ?_
    rw [valF]
    by_cases hbig : (a : Int) > 461168601842738790
    · exact Ev.pos hbig (most _ (by omega) _ (fun _ => rfl))
    · refine Ev.neg hbig (Ev.pos (by omega) ?_)
      rw [wu64 (n := 10 * (a : Int)) (by omega) (by omega), wu64 (n := (c.toNat : Int)) (by omega) (by omega), wu64 (n := 10 * (a : Int) + (c.toNat : Int)) (by omega) (by omega),
        wu64 (n := 10 * (a : Int) + (c.toNat : Int) - 48) (by omega) (by omega)]
      have e : 10 * (a : Int) + (c.toNat : Int) - 48 = ((10 * a + (c.toNat - 48) : Nat) : Int) := by omega
      rw [e]
      by_cases hm : ((10 * a + (c.toNat - 48) : Nat) : Int) > 4611686018427387903
      · exact Ev.pos hm (most _ (by omega) _ (fun _ => rfl))
      · exact Ev.neg hm (ih (i + 1) _ hr' (by omega) (by omega))
theorem signed_ev (l : List UInt8) (neg : Bool) (hd : ∀ c ∈ l, isDig c = true) (hl : l.length ≤ 2000000) : Ev (fun k => scriberef05_Signed.f k neg (B l)) (clampS neg ((valF l 0 : Nat) : Int)) :=
  signed_loop l neg hd hl l 0 0 rfl (Nat.zero_le _) (by omega)

theorem strip_loop (l : List UInt8) (hl : l.length ≤ 2000000) (r : List UInt8) : ∀ i : Nat, l.drop i = r → i ≤ l.length →
    Ev (fun k => scriberef05_strip.l0 k (B l) (i : Int)) (B (r.dropWhile (· == 48))) := by
  induction r with
  | nil =>
    intro i hr hi
    have := drop_nil hr
    refine Ev.succ ?_
    simp only [scriberef05_strip.l0]
    refine Ev.neg (by rw [B_size]; omega) (Ev.pos (by omega) (Ev.pos (by rw [B_size]; omega) (Ev.const ?_)))
    rw [B_extract, Int.toNat_natCast, hr]
    simp
  | cons c r ih =>
    intro i hr hi
    obtain ⟨hb, hil, hr'⟩ := bt_drop hr
    have hw1 : wrap64 ((i : Int) + 1) = ((i + 1 : Nat) : Int) := by rw [w64 (by omega) (by omega)]; omega
    refine Ev.succ ?_
    simp only [scriberef05_strip.l0, hb, hw1]
    refine Ev.pos (by rw [B_size]; omega) (Ev.pos (by omega) ?_)
    by_cases h : c = 48
    · subst h
      refine Ev.pos rfl ?_
      rw [List.dropWhile_cons_of_pos (by rfl)]
      exact ih (i + 1) hr' (by omega)
    · refine Ev.neg (fun h' => h (u8_ext (by show c.toNat = 48; omega))) (Ev.pos (by rw [B_size]; omega) (Ev.const ?_))
      rw [List.dropWhile_cons_of_neg (by simpa using h), B_extract, Int.toNat_natCast, hr, B_size, List.take_of_length_le (by rw [← hr, List.length_drop]; exact Nat.le_refl _)]
theorem strip_ev (l : List UInt8) (hl : l.length ≤ 2000000) : Ev (fun k => scriberef05_strip.f k (B l)) (B (l.dropWhile (· == 48))) :=
  strip_loop l hl l 0 rfl (Nat.zero_le _)
theorem valF_strip (l : List UInt8) : valF (l.dropWhile (· == 48)) 0 = valF l 0 := by
  induction l with
  | nil => rfl
  | cons c l ih =>
    by_cases h : c = 48
    · subst h; rw [List.dropWhile_cons_of_pos (by rfl), ih]; rfl
    · rw [List.dropWhile_cons_of_neg (by simpa using h)]

end Go.Proofs.YtmhhklenaadobaaDoor.Pr
