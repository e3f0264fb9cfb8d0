/- num: a number's text, as a list of bytes. -/
import Derived.Test.YtmobbclpfbkkkaaDoorPuB0
import Derived.Test.YtmobbclpfbkkkaaDoorPuF
import Derived.Test.YtmobbclpfbkkkaaDoorPr2
import Derived.Test.YtmobbclpfbkkkaaDoorPr3
import Derived.Test.YtmobbclpfbkkkaaDoorPr4
namespace Go.Proofs.YtmobbclpfbkkkaaDoor.Pr
open Go Go.RowKit Go.Proofs.YtmobbclpfbkkkaaDoorW.PrintWords Go.Proofs.YtmobbclpfbkkkaaDoorW.PrintLast Go.Proofs.YtmobbclpfbkkkaaDoorW.PrintMore

theorem trimRB_snoc (l : List UInt8) (c d : UInt8) : Lib.trimRightB (l ++ [c]) d = if c == d then Lib.trimRightB l d else l ++ [c] := by
  unfold Lib.trimRightB
  rw [List.reverse_append]
  simp only [List.reverse_cons, List.reverse_nil, List.nil_append, List.singleton_append, List.dropWhile_cons]
  split
  · rfl
  · simp
theorem trimRB_le (l : List UInt8) (d : UInt8) : (Lib.trimRightB l d).length ≤ l.length := by
  unfold Lib.trimRightB
  rw [List.length_reverse]
  have := (List.dropWhile_suffix (l := l.reverse) (p := (· == d))).length_le
  simpa using this

theorem trimRightByte_ev (c : UInt8) (n : Nat) : ∀ l : List UInt8, l.length = n → n ≤ 1000000 → Ev (fun k => strings_trimRightByte.l0 k (B l) (c.toNat : Int)) (B (Lib.trimRightB l c)) := by
  induction n with
  | zero =>
    intro l hl _
    obtain rfl := List.eq_nil_of_length_eq_zero hl
    refine Ev.succ ?_
    simp only [strings_trimRightByte.l0]
    exact Ev.neg (by decide) (Ev.now _)
  | succ n ih =>
    intro l hl hn
    rcases List.eq_nil_or_concat l with rfl | ⟨m, d, rfl⟩
    · simp at hl
    · rw [List.concat_eq_append] at *
      have hml : m.length = n := by simpa using hl
      refine Ev.succ ?_
      simp only [strings_trimRightByte.l0]
      have hsz : ((B (m ++ [d])).size : Int) = n + 1 := by rw [B_size, hl]; omega
      rw [hsz, w64 (n := (n : Int) + 1 - 1) (by omega) (by omega), show (n : Int) + 1 - 1 = n by omega]
      have hb : bt (B (m ++ [d])) (n : Int) = d.toNat := by
        rw [bt_B _ _ (by simp; omega)]
        simp [← hml]
      rw [hb, trimRB_snoc]
      refine Ev.pos (by omega) (Ev.pos (by omega) (Ev.pos (by omega) ?_))
      by_cases hd : d = c
      · subst hd
        refine Ev.pos rfl (Ev.pos (by omega) ?_)
        rw [show (d == d) = true by simp, if_pos rfl, B_extract, Int.toNat_natCast]
        simp only [List.drop_zero, Nat.sub_zero]
        rw [List.take_left' hml]
        exact ih m hml (by omega)
      · refine Ev.neg ?_ ?_
        · intro h
          exact hd (u8_ext (by omega))
        · rw [show (d == c) = false by simpa using hd]
          exact Ev.now _

theorem trimRight0_ev (l : List UInt8) (h : l.length ≤ 1000000) : Ev (fun k => strings_TrimRight.f k (B l) (⟨#[48]⟩ : ByteArray)) (B (Lib.trimRightB l 48)) := by
  unfold strings_TrimRight.f
  rw [B_toList]
  by_cases hl : l = []
  · refine Ev.pos hl (Ev.succ ?_)
    simp only [strings_TrimRight.j0]
    subst hl
    exact Ev.pos (by simp) (Ev.now _)
  · refine Ev.neg hl (Ev.succ ?_)
    rw [show ((⟨#[48]⟩ : ByteArray).toList == ([] : List UInt8)) = false by rw [show (⟨#[48]⟩ : ByteArray) = B [48] from rfl, B_toList]; rfl]
    simp only [strings_TrimRight.j0]
    refine Ev.neg (by simp) (Ev.pos (by decide) (Ev.pos (by decide) (Ev.succ ?_)))
    rw [show bt (⟨#[48]⟩ : ByteArray) 0 = 48 by decide]
    simp only [strings_TrimRight.j1]
    refine Ev.pos (by decide) (Ev.pos (by decide) ?_)
    refine Ev.bind' (f := fun _ t => some t) ?_ (Ev.now _)
    rw [show bt (⟨#[48]⟩ : ByteArray) 0 = ((48 : UInt8).toNat : Int) by decide]
    exact trimRightByte_ev 48 l.length l rfl h

/-- the digits behind the stop -/
def places (f : Nat) : List UInt8 := Lib.trimRightB ((Lib.decDigits (1000000 + f)).drop 1) 48
def textAbs (u : Nat) : List UInt8 := Lib.decDigits (u / 1000000) ++ (if u % 1000000 = 0 then [] else 46 :: places (u % 1000000))
def textS (a : Int) : List UInt8 := (if a < 0 then [45] else []) ++ textAbs a.natAbs

theorem format_some (n : Nat) (h : n < 18446744073709551616) : strconv_FormatUint.f (n : Int) 10 = some (B (Lib.decDigits n)) := by
  unfold strconv_FormatUint.f
  rw [if_pos rfl, if_pos (by omega), if_pos (by omega), Int.toNat_natCast]
  rfl
theorem nDigits_le (u : Nat) (h : u < 18446744073709551616) : Lib.nDigits u ≤ 20 := by
  by_cases h0 : u = 0
  · subst h0; rw [Lib.nDigits_small (by omega)]; omega
  · have := Lib.numDigits_eq u (by omega) h; split at this <;> omega
theorem places_le (f : Nat) (h : f < 1000000) : (places f).length ≤ 20 := by
  unfold places
  have h1 := trimRB_le ((Lib.decDigits (1000000 + f)).drop 1) 48
  have h2 := nDigits_le (1000000 + f) (by omega)
  rw [List.length_drop, Lib.decDigits_length] at h1
  omega

theorem text_ev (a : Int) (h0 : -4611686018427387903 ≤ a) (h1 : a ≤ 4611686018427387903) : Ev (fun k => num_Num_Text.f k a) (B (textS a)) := by
  unfold num_Num_Text.f
  refine Ev.bindc (size_some a (by omega) (by omega)) ?_
  have hu : a.natAbs < 4611686018427387904 := by omega
  have hneg : (a < 0) = (a < 0) := rfl
  unfold textS textAbs
  generalize a.natAbs = u at *
  have e1 : IntKind.u64.wrap (Int.tdiv (u : Int) 1000000) = ((u / 1000000 : Nat) : Int) := by
    rw [Int.tdiv_eq_ediv_of_nonneg (by omega), wu64 (by omega) (by omega)]; rfl
  have e2 : Int.tmod (u : Int) 1000000 = ((u % 1000000 : Nat) : Int) := by
    rw [Int.tmod_eq_emod_of_nonneg (by omega)]; rfl
  have e3 : IntKind.u64.wrap (1000000 + ((u % 1000000 : Nat) : Int)) = ((1000000 + u % 1000000 : Nat) : Int) := by
    rw [wu64 (by omega) (by omega)]; omega
  rw [e1, e2, e3]
  have hn1 := nDigits_le (u / 1000000) (by omega)
  refine Ev.bindc (format_some _ (by omega)) ?_
  by_cases hf : u % 1000000 = 0
  · refine Ev.neg (by omega) ?_
    rw [if_pos hf, List.append_nil]
    by_cases ha : a < 0
    · refine Ev.pos ha (Ev.pos (by rw [B_size, Lib.decDigits_length]; omega) (Ev.const ?_))
      rw [if_pos ha, show (⟨#[45]⟩ : ByteArray) = B [45] from rfl, B_append]
    · refine Ev.neg ha (Ev.const ?_)
      rw [if_neg ha]; rfl
  · refine Ev.pos (by omega) (Ev.bindc (format_some _ (by omega)) ?_)
    have hn2 := nDigits_le (1000000 + u % 1000000) (by omega)
    have hn3 := Lib.nDigits_pos (1000000 + u % 1000000)
    have hpl := places_le (u % 1000000) (Nat.mod_lt _ (by omega))
    refine Ev.pos (by rw [B_size, Lib.decDigits_length]; omega) ?_
    rw [B_extract, B_size, Lib.decDigits_length, List.take_of_length_le (by rw [List.length_drop, Lib.decDigits_length]; exact Nat.le_refl _)]
    refine Ev.bind' (trimRight0_ev _ (by rw [List.length_drop, Lib.decDigits_length]; omega)) ?_
    rw [if_neg hf]
    rw [show Lib.trimRightB (List.drop 1 (Lib.decDigits (1000000 + u % 1000000))) 48 = places (u % 1000000) from rfl]
    simp only [show (⟨#[46]⟩ : ByteArray) = B [46] from rfl, show (⟨#[45]⟩ : ByteArray) = B [45] from rfl, B_append, B_size, List.length_append, List.length_cons, Lib.decDigits_length, List.singleton_append]
    refine Ev.pos (by omega) (Ev.pos (by omega) ?_)
    by_cases ha : a < 0
    · refine Ev.pos ha (Ev.pos (by omega) (Ev.const ?_))
      rw [if_pos ha]; rfl
    · refine Ev.neg ha (Ev.const ?_)
      rw [if_neg ha]; rfl

end Go.Proofs.YtmobbclpfbkkkaaDoor.Pr
