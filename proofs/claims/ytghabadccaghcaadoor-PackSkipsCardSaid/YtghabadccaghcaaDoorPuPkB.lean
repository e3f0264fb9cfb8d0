/- What is written is read, what is read is what would be written; the document's Int and Text. -/
import Derived.Test.YtghabadccaghcaaDoorPuPkS
import Derived.Lib.ItoaMem
import Derived.Test.YtghabadccaghcaaDoorPr11
namespace Go.Proofs.YtghabadccaghcaaDoor.Pr
open Go Go.RowKit Go.Proofs.YtghabadccaghcaaDoorW.PrintWords Go.Proofs.YtghabadccaghcaaDoorW.PrintLast Go.Proofs.YtghabadccaghcaaDoorW.PrintMore

def i64 (n : Int) : Prop := -9223372036854775808 ≤ n ∧ n ≤ 9223372036854775807
theorem of_wf {n : Int} (h : (Lit.int .i64 n).wf = true) : i64 n := by
  simp [Lit.wf] at h
  rw [show IntKind.i64.min = -9223372036854775808 from rfl] at h
  exact h
theorem dec_len (v : Nat) : 1 ≤ (Lib.decDigits v).length := by rw [Lib.decDigits_length]; exact Lib.nDigits_pos _
theorem dec_len19 (v : Nat) (h : v < 10 ^ 19) : (Lib.decDigits v).length ≤ 19 := by rw [Lib.decDigits_length]; exact nDigits_pow 19 v (by omega) h
theorem dec_ne45 (v : Nat) : (Lib.decDigits v).head? ≠ some 45 := by
  intro h
  obtain ⟨c, r, hc⟩ : ∃ c r, Lib.decDigits v = c :: r := by
    have := dec_len v
    cases hd : Lib.decDigits v with
    | nil => rw [hd] at this; simp at this
    | cons c r => exact ⟨c, r, rfl⟩
  rw [hc] at h
  have e : c = 45 := by simpa using h
  have := (isDig_iff c).1 (dec_dig v c (by rw [hc]; simp))
  rw [e] at this
  have : (45 : UInt8).toNat = 45 := rfl
  omega
theorem take_cat {l a : List UInt8} {n : Nat} (h : l.take n = a) (m : Nat) : l.take (n + m) = a ++ (l.drop n).take m := by rw [List.take_add, h]
/-- a number's text, by its sign and size -/
theorem intL_pos (v : Nat) : intL (v : Int) = 105 :: (Lib.decDigits v ++ [59]) := by unfold intL; rw [Lib.itoa_nonneg]
theorem intL_neg (v : Nat) (h : 1 ≤ v) : intL (-(v : Int)) = 105 :: 45 :: (Lib.decDigits v ++ [59]) := by unfold intL; rw [Lib.itoa_neg v h]; rfl

theorem int_back (l : List UInt8) (h : (intS l).2.2 = 0) : l.take (intS l).2.1 = intL (intS l).1 ∧ i64 (intS l).1 ∧ (intS l).2.1 ≤ l.length := by
  cases l with
  | nil => simp [intS] at h
  | cons x r =>
    unfold intS at h ⊢
    simp only at h ⊢
    by_cases hx : x ≠ 105
    · rw [if_pos hx] at h; simp at h
    · rw [if_neg hx] at h ⊢
      have hx2 : x = 105 := by simpa using hx
      generalize hm : (if r.head? = some 45 then 1 else 0) = m at h ⊢
      have hmm : (m = 1 ∧ ∃ s, r = 45 :: s) ∨ m = 0 := by
        cases r with
        | nil => right; simpa using hm.symm
        | cons y s =>
          by_cases hy : y = 45
          · left; rw [if_pos (by simp [hy])] at hm; exact ⟨hm.symm, s, by rw [hy]⟩
          · right; rw [if_neg (by simp [hy])] at hm; exact hm.symm
      have hb := digS_back (r.drop m) 0 false 0 [] (by simp) (by omega) (.inl ⟨rfl, rfl, rfl⟩)
      have hle := digS_le (r.drop m) 0 false 0
      rw [List.length_drop] at hle
      generalize digS (r.drop m) 0 false 0 = D at h hb hle ⊢
      by_cases h1 : D.2.2 ≠ 0
      · rw [if_pos h1] at h; exact absurd h h1
      · rw [if_neg h1] at h ⊢
        have h1' : D.2.2 = 0 := by omega
        obtain ⟨b1, b2, b3, y0, s0, b4, b5⟩ := hb h1'
        rw [Nat.sub_zero] at b1 b4
        rw [List.nil_append] at b1
        by_cases h2 : 9223372036854775808 < D.1 ∨ (m = 0 ∧ D.1 = 9223372036854775808) ∨ (m = 1 ∧ D.1 = 0)
        · rw [if_pos h2] at h; simp at h
        · rw [if_neg h2] at h ⊢
          rw [b4] at h ⊢
          simp only at h ⊢
          by_cases hy : y0 ≠ 59
          · rw [if_pos hy] at h; simp at h
          · rw [if_neg hy] at h ⊢
            have hy2 : y0 = 59 := by simpa using hy
            subst hx2 hy2
            have hl2 : D.2.1 + 1 ≤ (r.drop m).length := by
              have := congrArg List.length b4
              rw [List.length_drop, List.length_cons] at this
              omega
            rw [List.length_drop] at hl2
            have tk : (r.drop m).take (D.2.1 + 1) = Lib.decDigits D.1 ++ [59] := by rw [take_cat b1, b4]; rfl
            refine ⟨?_, ?_, by simp only [List.length_cons]; omega⟩
            · rcases hmm with ⟨rfl, s, rfl⟩ | rfl
              · rw [if_pos rfl, intL_neg _ (by omega)]
                have e : 1 + 1 + D.2.1 + 1 = (D.2.1 + 1) + 1 + 1 := by omega
                rw [e, List.take_succ_cons, List.take_succ_cons]
                rw [List.drop_succ_cons, List.drop_zero] at tk
                rw [tk]
              · rw [if_neg (by decide), intL_pos]
                have e : 1 + 0 + D.2.1 + 1 = (D.2.1 + 1) + 1 := by omega
                rw [e, List.take_succ_cons]
                rw [List.drop_zero] at tk
                rw [tk]
            · unfold i64
              rcases hmm with ⟨rfl, _⟩ | rfl
              · rw [if_pos rfl]; omega
              · rw [if_neg (by decide)]; omega
theorem int_fwd (n : Int) (h : i64 n) (r : List UInt8) : intS (intL n ++ r) = (n, (intL n).length, 0) := by
  unfold i64 at h
  have h59 : isDig 59 = false := rfl
  rcases Int.lt_or_le n 0 with hn | hn
  · obtain ⟨v, rfl⟩ : ∃ v : Nat, n = -(v : Int) := ⟨n.natAbs, by omega⟩
    have hv : v < 10 ^ 19 := by omega
    have hd := digS_dec v 59 r hv h59
    rw [intL_neg v (by omega)]
    simp only [List.cons_append, List.append_assoc, List.nil_append]
    unfold intS
    simp only [List.head?_cons, ne_eq, not_true_eq_false, if_false, if_true, List.drop_succ_cons, List.drop_zero]
    rw [hd]
    simp only [not_true_eq_false, if_false]
    rw [if_neg (by omega), List.drop_left]
    simp only [not_true_eq_false, if_false]
    simp only [List.length_cons, List.length_append, List.length_nil]
    congr 2
    omega
  · obtain ⟨v, rfl⟩ := Int.eq_ofNat_of_zero_le hn
    have hv : v < 10 ^ 19 := by omega
    have hd := digS_dec v 59 r hv h59
    rw [intL_pos v]
    simp only [List.cons_append, List.append_assoc, List.nil_append]
    have h45 : (Lib.decDigits v ++ 59 :: r).head? ≠ some 45 := by
      have h45 := dec_ne45 v
      have := dec_len v
      cases hc : Lib.decDigits v with
      | nil => rw [hc] at this; simp at this
      | cons c s => rw [hc] at h45; simpa using h45
    unfold intS
    simp only [ne_eq, not_true_eq_false, if_false, if_neg h45, List.drop_zero]
    rw [hd]
    simp only [not_true_eq_false, if_false]
    rw [if_neg (by omega), List.drop_left]
    simp only [not_true_eq_false, if_false]
    simp only [List.length_cons, List.length_append, List.length_nil]
    congr 2
    omega
theorem text_back (most : Int) (l : List UInt8) (h : (textS most l).2.2 = 0) : l.take (textS most l).2.1 = textL (textS most l).1 ∧ (((textS most l).1.length : Nat) : Int) ≤ max most 0 ∧ (textS most l).2.1 ≤ l.length := by
  unfold textS at h ⊢
  simp only at h ⊢
  have hb := digS_back l 0 false 0 [] (by simp) (by omega) (.inl ⟨rfl, rfl, rfl⟩)
  have hle := digS_le l 0 false 0
  generalize digS l 0 false 0 = D at h hb hle ⊢
  by_cases h1 : D.2.2 ≠ 0
  · rw [if_pos h1] at h; exact absurd h h1
  · rw [if_neg h1] at h ⊢
    have h1' : D.2.2 = 0 := by omega
    obtain ⟨b1, b2, b3, y0, s0, b4, b5⟩ := hb h1'
    rw [Nat.sub_zero] at b1 b4
    rw [List.nil_append] at b1
    by_cases h2 : (D.1 : Int) > max most 0
    · rw [if_pos h2] at h; simp at h
    · rw [if_neg h2] at h ⊢
      rw [b4] at h ⊢
      simp only at h ⊢
      by_cases hy : y0 ≠ 58
      · rw [if_pos hy] at h; simp at h
      · rw [if_neg hy] at h ⊢
        have hy2 : y0 = 58 := by simpa using hy
        subst hy2
        by_cases hs : s0.length < D.1
        · rw [if_pos hs] at h; simp at h
        · rw [if_neg hs]
          have hl2 := congrArg List.length b4
          rw [List.length_drop, List.length_cons] at hl2
          have hlt : (s0.take D.1).length = D.1 := by rw [List.length_take]; omega
          refine ⟨?_, by simp only; rw [hlt]; omega, by simp only; omega⟩
          simp only
          unfold textL
          rw [hlt, Nat.add_assoc, take_cat b1, b4, Nat.add_comm 1, List.take_succ_cons]
theorem text_fwd (most : Int) (s r : List UInt8) (h : (s.length : Int) ≤ max most 0) (h19 : s.length < 10 ^ 19) : textS most (textL s ++ r) = (s, (textL s).length, 0) := by
  have hd := digS_dec s.length 58 (s ++ r) h19 rfl
  unfold textL textS
  simp only [List.cons_append, List.append_assoc]
  rw [hd]
  simp only [ne_eq, not_true_eq_false, if_false]
  rw [if_neg (by omega), List.drop_left]
  simp only [not_true_eq_false, if_false]
  rw [if_neg (by rw [List.length_append]; omega), List.take_left]
  simp only [List.length_cons, List.length_append]
  congr 2
  omega
theorem refInt_ev (n : Int) (h : i64 n) : Ev (fun k => scriberef01_Int.f k n) (B (intL n)) := by
  unfold i64 at h
  unfold scriberef01_Int.f
  rcases Int.lt_or_le n 0 with hn | hn
  · obtain ⟨v, rfl⟩ : ∃ v : Nat, n = -(v : Int) := ⟨n.natAbs, by omega⟩
    have hw : IntKind.u64.wrap (-(IntKind.u64.wrap (-(v : Int)))) = (v : Int) := by
      rw [IntKind.wrap_u64, IntKind.wrap_u64]; omega
    rw [hw]
    have hl := dec_len19 v (by omega)
    refine Ev.pos (by omega) (Ev.bind' (digits_ev v (by omega)) ?_)
    rw [B_lit [105, 45], B_lit [59], B_append, B_size, B_size]
    refine Ev.pos (by omega) (Ev.pos (by rw [List.length_append]; simp only [List.length_cons, List.length_nil]; omega) ?_)
    rw [B_append, intL_neg v (by omega)]
    exact Ev.now _
  · obtain ⟨v, rfl⟩ := Int.eq_ofNat_of_zero_le hn
    rw [wu64 (n := (v : Int)) (by omega) (by omega)]
    have hl := dec_len19 v (by omega)
    refine Ev.neg (by omega) (Ev.bind' (digits_ev v (by omega)) ?_)
    rw [B_lit [105], B_lit [59], B_append, B_size, B_size]
    refine Ev.pos (by omega) (Ev.pos (by rw [List.length_append]; simp only [List.length_cons, List.length_nil]; omega) ?_)
    rw [B_append, intL_pos v]
    exact Ev.now _
theorem refText_ev (s : List UInt8) (h : s.length ≤ 1000000000000) : Ev (fun k => scriberef01_Text.f k (B s)) (B (textL s)) := by
  unfold scriberef01_Text.f
  rw [B_size]
  have hl := dec_len19 s.length (by omega)
  refine Ev.bind' (digits_ev s.length (by omega)) ?_
  rw [B_lit [58], B_append, B_size, B_size]
  refine Ev.pos (by omega) (Ev.pos (by rw [List.length_append]; simp only [List.length_cons, List.length_nil]; omega) ?_)
  rw [B_append]
  unfold textL
  rw [List.append_assoc]
  exact Ev.now _
end Go.Proofs.YtghabadccaghcaaDoor.Pr
