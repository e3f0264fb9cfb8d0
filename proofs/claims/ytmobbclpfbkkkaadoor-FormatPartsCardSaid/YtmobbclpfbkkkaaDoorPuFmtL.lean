/- format: laws of what a format and a value come to. -/
import Derived.Test.YtmobbclpfbkkkaaDoorPuFmtS
namespace Go.Proofs.YtmobbclpfbkkkaaDoor.Pr
open Go Go.RowKit Go.Proofs.YtmobbclpfbkkkaaDoorW.PrintWords Go.Proofs.YtmobbclpfbkkkaaDoorW.PrintLast Go.Proofs.YtmobbclpfbkkkaaDoorW.PrintMore

theorem printS_nil (args : List Cl) (out : List UInt8) : printS [] args out = if 4000 < out.length then ([], 12) else (out, 0) := by
  rw [printS]
theorem printS_cons (c : UInt8) (r : List UInt8) (args : List Cl) (out : List UInt8) (h : c.toNat ≠ 37) : printS (c :: r) args out = printS r args (out ++ [c]) := by
  rw [printS, if_neg h]
theorem printS_conv (r : List UInt8) (args : List Cl) (out : List UInt8) : printS (37 :: r) args out =
    if (specS r).2.1 ≠ 0 then ([], (specS r).2.1)
    else if (specS r).1.verb = 37 then printS (specS r).2.2 args (out ++ [37])
    else if 4000 < (out ++ oneS (specS r).1 (args.headD (0, 0, [])).1 (args.headD (0, 0, [])).2.1 (args.headD (0, 0, [])).2.2).length then ([], 12)
    else printS (specS r).2.2 args.tail (out ++ oneS (specS r).1 (args.headD (0, 0, [])).1 (args.headD (0, 0, [])).2.1 (args.headD (0, 0, [])).2.2) := by
  rw [printS, if_pos (by rfl)]
theorem printS_run (p : List UInt8) : ∀ (m : List UInt8) (args : List Cl) (out : List UInt8), (∀ c ∈ p, c.toNat ≠ 37) → printS (p ++ m) args out = printS m args (out ++ p) := by
  induction p with
  | nil => intro m args out _; simp
  | cons c p ih =>
    intro m args out h
    rw [List.cons_append, printS_cons _ _ _ _ (h c (by simp)), ih m args _ (fun x hx => h x (by simp [hx]))]
    simp
theorem printS_plain (l : List UInt8) (args : List Cl) (out : List UInt8) (h : ∀ c ∈ l, c.toNat ≠ 37) (hl : out.length + l.length ≤ 4000) : printS l args out = (out ++ l, 0) := by
  have := printS_run l [] args out h
  rw [List.append_nil] at this
  rw [this, printS_nil, if_neg (by rw [List.length_append]; omega)]

/-! what stands behind a part that ends with s -/
theorem flagsS_more (l : List UInt8) : ∀ x, l.getLast? = some 115 → ∃ q, (flagsS l x).2 = q ++ [115] ∧ (∀ m, flagsS (l ++ m) x = ((flagsS l x).1, (flagsS l x).2 ++ m)) ∧ (∀ c ∈ q, c ∈ l) := by
  induction l with
  | nil => intro x h; simp at h
  | cons c r ih =>
    intro x h
    by_cases hr : r = []
    · subst hr
      have hc : c = 115 := by simpa using h
      subst hc
      exact ⟨[], rfl, fun m => rfl, fun c hc => by simp at hc⟩
    · have h' : r.getLast? = some 115 := by
        rw [List.getLast?_cons] at h
        cases hx : r.getLast? with
        | none => exact absurd (List.getLast?_eq_none_iff.1 hx) hr
        | some z => rw [hx] at h; simpa using h
      have lift : ∀ y, ∃ q, (flagsS r y).2 = q ++ [115] ∧ (∀ m, flagsS (r ++ m) y = ((flagsS r y).1, (flagsS r y).2 ++ m)) ∧ (∀ z ∈ q, z ∈ c :: r) := fun y => by
        obtain ⟨q, h1, h2, h3⟩ := ih y h'
        exact ⟨q, h1, h2, fun z hz => List.mem_cons_of_mem _ (h3 z hz)⟩
      simp only [List.cons_append, flagsS]
      by_cases c1 : c.toNat = 45
      · simp only [if_pos c1]; exact lift _
      · simp only [if_neg c1]
        by_cases c2 : c.toNat = 48
        · simp only [if_pos c2]; exact lift _
        · simp only [if_neg c2]
          by_cases c3 : c.toNat = 43
          · simp only [if_pos c3]; exact lift _
          · simp only [if_neg c3]
            by_cases c4 : c.toNat = 32
            · simp only [if_pos c4]; exact lift _
            · simp only [if_neg c4]
              obtain ⟨q, hq⟩ := List.getLast?_eq_some_iff.1 h
              refine ⟨q, hq, fun m => rfl, fun z hz => ?_⟩
              rw [hq]; simp [hz]
theorem last_drop {c : UInt8} {r : List UInt8} (h : (c :: r).getLast? = some 115) (hr : r ≠ []) : r.getLast? = some 115 := by
  rw [List.getLast?_cons] at h
  cases hx : r.getLast? with
  | none => exact absurd (List.getLast?_eq_none_iff.1 hx) hr
  | some z => rw [hx] at h; simpa using h
theorem numD_more (l : List UInt8) : ∀ n, l.getLast? = some 115 → ∃ q, (numD l n).2 = q ++ [115] ∧ (∀ m, numD (l ++ m) n = ((numD l n).1, (numD l n).2 ++ m)) ∧ (∀ c ∈ q, c ∈ l) := by
  induction l with
  | nil => intro x h; simp at h
  | cons c r ih =>
    intro n h
    simp only [List.cons_append, numD]
    by_cases hr : r = []
    · subst hr
      have hc : c = 115 := by simpa using h
      subst hc
      exact ⟨[], rfl, fun m => rfl, fun c hc => by simp at hc⟩
    · by_cases hd : isDig c = true
      · simp only [if_pos hd]
        obtain ⟨q, h1, h2, h3⟩ := ih (min (10 * n + (c.toNat - 48)) 1001) (last_drop h hr)
        exact ⟨q, h1, h2, fun z hz => List.mem_cons_of_mem _ (h3 z hz)⟩
      · simp only [if_neg hd]
        obtain ⟨q, hq⟩ := List.getLast?_eq_some_iff.1 h
        refine ⟨q, hq, fun m => rfl, fun z hz => ?_⟩
        rw [hq]; simp [hz]
theorem precS_more (l : List UInt8) (h : l.getLast? = some 115) : ∃ q, (precS l).2 = q ++ [115] ∧ (∀ m, precS (l ++ m) = ((precS l).1, (precS l).2 ++ m)) ∧ (∀ c ∈ q, c ∈ l) := by
  cases l with
  | nil => simp at h
  | cons c r =>
    simp only [List.cons_append, precS]
    by_cases hd : c.toNat = 46
    · simp only [if_pos hd]
      have hr : r ≠ [] := by
        rintro rfl
        have hc : c = 115 := by simpa using h
        subst hc
        exact absurd hd (by decide)
      obtain ⟨q, h1, h2, h3⟩ := numD_more r 0 (last_drop h hr)
      refine ⟨q, h1, fun m => ?_, fun z hz => List.mem_cons_of_mem _ (h3 z hz)⟩
      rw [h2 m]
    · simp only [if_neg hd]
      obtain ⟨q, hq⟩ := List.getLast?_eq_some_iff.1 h
      refine ⟨q, hq, fun m => rfl, fun z hz => ?_⟩
      rw [hq]; simp [hz]
theorem last_snoc (q : List UInt8) : (q ++ [115]).getLast? = some (115 : UInt8) := by simp
/-- a part that ends with s: what follows it is not looked at -/
theorem specS_more (l : List UInt8) (h : l.getLast? = some 115) : (∀ m, specS (l ++ m) = ((specS l).1, (specS l).2.1, (specS l).2.2 ++ m)) ∧ (∀ c ∈ (specS l).2.2, c ∈ l) ∧ ((specS l).2.1 = 0 → (specS l).1.verb ∈ l) := by
  obtain ⟨q1, a1, b1, c1⟩ := flagsS_more l FS.none h
  obtain ⟨q2, a2, b2, c2⟩ := numD_more (flagsS l FS.none).2 0 (by rw [a1]; exact last_snoc q1)
  obtain ⟨q3, a3, b3, c3⟩ := precS_more (numD (flagsS l FS.none).2 0).2 (by rw [a2]; exact last_snoc q2)
  have m115 : (115 : UInt8) ∈ l := by obtain ⟨q, hq⟩ := List.getLast?_eq_some_iff.1 h; rw [hq]; simp
  have k1 : ∀ c ∈ (flagsS l FS.none).2, c ∈ l := by
    intro c hc; rw [a1, List.mem_append] at hc
    rcases hc with hc | hc
    · exact c1 c hc
    · rw [List.mem_singleton.1 hc]; exact m115
  have k2 : ∀ c ∈ (numD (flagsS l FS.none).2 0).2, c ∈ l := by
    intro c hc; rw [a2, List.mem_append] at hc
    rcases hc with hc | hc
    · exact k1 c (c2 c hc)
    · rw [List.mem_singleton.1 hc]; exact m115
  have k3 : ∀ c ∈ (precS (numD (flagsS l FS.none).2 0).2).2, c ∈ l := by
    intro c hc; rw [a3, List.mem_append] at hc
    rcases hc with hc | hc
    · exact k2 c (c3 c hc)
    · rw [List.mem_singleton.1 hc]; exact m115
  unfold specS specT
  simp only [b1, b2, b3]
  by_cases hb : 1000 < (numD (flagsS l FS.none).2 0).1 ∨ 1000 < (precS (numD (flagsS l FS.none).2 0).2).1
  · simp only [if_pos hb]
    exact ⟨by simp, k3, by simp⟩
  · simp only [if_neg hb]
    cases hp : (precS (numD (flagsS l FS.none).2 0).2).2 with
    | nil => rw [hp] at a3; simp at a3
    | cons c r =>
      rw [hp] at k3
      simp only [List.cons_append, verbS]
      by_cases hv : verbOk c = true
      · simp only [if_pos hv]
        exact ⟨by simp, fun z hz => k3 z (List.mem_cons_of_mem _ hz), fun _ => k3 c (by simp)⟩
      · simp only [if_neg hv]
        exact ⟨by simp, k3, by simp⟩

/-! how long it is -/
theorem padS_length (f : FS) (width : Nat) (sign body : List UInt8) (z : Bool) : (padS f width sign body z).length = max width (sign.length + body.length) := by
  unfold padS
  repeat' split
  all_goals simp only [List.length_append, List.length_replicate]; omega
theorem signS_le (f : FS) (neg : Bool) : (signS f neg).length ≤ 1 := by
  unfold signS
  repeat' split
  all_goals simp
theorem dec_le (n : Nat) (h : n < 18446744073709551616) : (Lib.decDigits n).length ≤ 20 := by
  rw [Lib.decDigits_length]; exact nDigits_le n h
theorem dec_seven (u : Nat) (h : u < 1000000) : (Lib.decDigits (1000000 + u)).length = 7 := by
  rw [Lib.decDigits_length]
  rw [Lib.nDigits_big (by omega), Lib.nDigits_big (by omega), Lib.nDigits_big (by omega), Lib.nDigits_big (by omega), Lib.nDigits_big (by omega), Lib.nDigits_big (by omega)]
  have : (1000000 + u) / 10 / 10 / 10 / 10 / 10 / 10 = 1 := by omega
  rw [this, show Lib.nDigits 1 = 1 by rw [← Lib.decDigits_length, dec_one 1 (by omega)]; rfl]
theorem wholeS_le (x : Sp) (v : Int) (dg : List UInt8) (hw : x.width ≤ 1000) (hp : x.prec ≤ 1000) (hd : dg.length ≤ 20) : (wholeS x v dg).length ≤ 1021 := by
  unfold wholeS
  simp only
  rw [padS_length]
  have h1 := signS_le x.fs (decide (v ≤ -1000000))
  have h2 : ∀ s : List UInt8, s.length ≤ 20 → (List.replicate (x.prec - s.length).toNat (48 : UInt8) ++ s).length ≤ 1020 := by
    intro s hs
    rw [List.length_append, List.length_replicate]; omega
  have h3 := h2 (if x.prec = 0 ∧ v.natAbs / 1000000 = 0 then [] else dg) (by split <;> simp [hd])
  omega
theorem placesS_le (x : Sp) (v : Int) (hw : x.width ≤ 1000) (hp : x.prec ≤ 1000) (hv : fitI v) : (placesS x v).length ≤ 1030 := by
  unfold fitI at hv
  unfold placesS
  simp only
  rw [padS_length]
  have h1 := signS_le x.fs (decide (v < 0))
  have h2 := dec_le (v.natAbs / 1000000) (by omega)
  have h3 : ∀ (p : Nat) (l : List UInt8), p ≤ 1000 → (if p = 0 then [] else [46] ++ l.take p).length ≤ 1001 := by
    intro p l hp'
    split
    · simp
    · simp only [List.length_append, List.length_singleton, List.length_take]; omega
  have h4 := h3 (if x.prec < 0 then 6 else x.prec.toNat) ((Lib.decDigits (1000000 + v.natAbs % 1000000)).drop 1 ++ List.replicate ((if x.prec < 0 then 6 else x.prec.toNat) - 6) 48) (by split <;> omega)
  rw [List.length_append]
  omega
theorem oneS_le (x : Sp) (kd n : Int) (l : List UInt8) (hw : x.width ≤ 1000) (hp : x.prec ≤ 1000) (hv : fitI (numS kd n l)) (hs : (strS kd n l).length ≤ 1000) : (oneS x kd n l).length ≤ 1030 := by
  unfold oneS
  simp only
  have hv' := hv
  unfold fitI at hv'
  have hd : (Lib.decDigits ((numS kd n l).natAbs / 1000000)).length ≤ 20 := dec_le _ (by omega)
  have hh : (hexS ((numS kd n l).natAbs / 1000000)).length ≤ 20 := hexS_len _ 20 (by omega) (by omega)
  split
  · have := wholeS_le x (numS kd n l) _ hw hp hd; omega
  · split
    · have := wholeS_le x (numS kd n l) _ hw hp hh; omega
    · split
      · exact placesS_le x _ hw hp hv
      · split
        · rw [padS_length, List.length_take]; simp only [List.length_nil]; omega
        · rw [padS_length]
          simp only [List.length_nil]
          split
          · rw [List.length_take]; omega
          · omega
theorem specS_bounds (l : List UInt8) (h : (specS l).2.1 = 0) : (specS l).1.width ≤ 1000 ∧ (specS l).1.prec ≤ 1000 := by
  unfold specS specT at h ⊢
  simp only at h ⊢
  by_cases hb : 1000 < (numD (flagsS l FS.none).2 0).1 ∨ 1000 < (precS (numD (flagsS l FS.none).2 0).2).1
  · rw [if_pos hb] at h; simp at h
  · rw [if_neg hb] at h ⊢
    generalize (precS (numD (flagsS l FS.none).2 0).2).2 = m at *
    cases m with
    | nil => simp [verbS] at h
    | cons c r =>
      rw [verbS]
      split
      · constructor <;> (simp only; omega)
      · constructor <;> (simp only; omega)

theorem precS_low (l : List UInt8) : -1 ≤ (precS l).1 := by
  cases l with
  | nil => simp [precS]
  | cons c r =>
    rw [precS]
    split
    · simp only; omega
    · simp
theorem specS_low (l : List UInt8) : -1 ≤ (specS l).1.prec := by
  have h := precS_low (numD (flagsS l FS.none).2 0).2
  unfold specS specT
  simp only
  split
  · exact h
  · generalize (precS (numD (flagsS l FS.none).2 0).2).2 = m at *
    cases m with
    | nil => exact h
    | cons c r =>
      rw [verbS]
      split <;> exact h
theorem specS_suf (l : List UInt8) : (specS l).2.2 <:+ l := by
  have f1 : ∀ (r : List UInt8) x, (flagsS r x).2 <:+ r := by
    intro r
    induction r with
    | nil => intro n; exact List.suffix_refl _
    | cons c r ih =>
      intro n
      rw [flagsS]
      repeat' split
      all_goals first | exact (ih _).trans (List.suffix_cons c r) | exact List.suffix_refl _
  have f2 : ∀ (r : List UInt8) n, (numD r n).2 <:+ r := by
    intro r
    induction r with
    | nil => intro n; exact List.suffix_refl _
    | cons c r ih =>
      intro n
      rw [numD]
      split
      · exact (ih _).trans (List.suffix_cons c r)
      · exact List.suffix_refl _
  have f3 : ∀ r : List UInt8, (precS r).2 <:+ r := by
    intro r
    cases r with
    | nil => exact List.suffix_refl _
    | cons c r =>
      rw [precS]
      split
      · exact (f2 r 0).trans (List.suffix_cons c r)
      · exact List.suffix_refl _
  have h := ((f3 _).trans (f2 _ 0)).trans (f1 l FS.none)
  unfold specS specT
  simp only
  split
  · exact h
  · generalize (precS (numD (flagsS l FS.none).2 0).2).2 = m at *
    cases m with
    | nil => exact h
    | cons c r =>
      rw [verbS]
      split
      · exact (List.suffix_cons c r).trans h
      · exact h

end Go.Proofs.YtmobbclpfbkkkaaDoor.Pr
