/- lex: what stands in a text is read alike where a blank or a line's end and more stand behind it. -/
import Derived.Test.YtpnkcihiliagcaaDoorPuLxM
namespace Go.Proofs.YtpnkcihiliagcaaDoor.Pr
open Go Go.RowKit Go.Proofs.YtpnkcihiliagcaaDoorW.PrintWords Go.Proofs.YtpnkcihiliagcaaDoorW.PrintLast Go.Proofs.YtpnkcihiliagcaaDoorW.PrintMore
set_option linter.unusedVariables false

theorem bt_left (s t : ByteArray) (i : Int) (h0 : 0 ≤ i) (h : i < (s.size : Int)) : bt (s ++ t) i = bt s i := by
  have h1 : i.toNat < s.size := by omega
  unfold bt
  rw [dif_pos h1, dif_pos (by rw [ByteArray.size_append]; omega), ByteArray.getElem_append_left h1]
theorem bt_right (s t : ByteArray) (i : Int) (h0 : 0 ≤ i) : bt (s ++ t) ((s.size : Int) + i) = bt t i := by
  unfold bt
  by_cases h : i.toNat < t.size
  · rw [dif_pos h, dif_pos (by rw [ByteArray.size_append]; omega), ByteArray.getElem_append_right (by omega)]
    congr 2
    congr 1
    omega
  · rw [dif_neg h, dif_neg (by rw [ByteArray.size_append]; omega)]
theorem cut_left (s t : ByteArray) (a b : Int) (h0 : 0 ≤ a) (h : b ≤ (s.size : Int)) : cut (s ++ t) a b = cut s a b := by
  unfold cut
  apply ByteArray.ext
  simp [ByteArray.data_extract, ByteArray.data_append, Array.extract_append]
  omega
theorem run_loc {P : Int → Bool} (s t : ByteArray) (ht : 0 < t.size) (hP : P (bt t 0) = false) : ∀ (d : Nat) (p : Int), 0 ≤ p → p ≤ (s.size : Int) → (s.size : Int) - p ≤ d → ∀ d' : Nat, (s.size : Int) - p < d' → runTo P (s ++ t) d' p = runTo P s d p := by
  intro d
  induction d with
  | zero =>
    intro p h0 h1 h2 d' h3
    obtain rfl : p = (s.size : Int) := by omega
    obtain ⟨e, rfl⟩ : ∃ e, d' = e + 1 := ⟨d' - 1, by omega⟩
    have hb := bt_right s t 0 (by omega)
    rw [Int.add_zero] at hb
    rw [runTo, runTo, if_pos (by rw [ByteArray.size_append]; omega), hb, hP]
    rfl
  | succ d ih =>
    intro p h0 h1 h2 d' h3
    obtain ⟨e, rfl⟩ : ∃ e, d' = e + 1 := ⟨d' - 1, by omega⟩
    rw [runTo, runTo, if_pos (by rw [ByteArray.size_append]; omega)]
    by_cases hp : p < (s.size : Int)
    · rw [if_pos hp, bt_left s t p h0 hp]
      split
      · exact ih (p + 1) (by omega) (by omega) (by omega) e (by omega)
      · rfl
    · obtain rfl : p = (s.size : Int) := by omega
      have hb := bt_right s t 0 (by omega)
      rw [Int.add_zero] at hb
      rw [if_neg hp, hb, hP]
      rfl
theorem quote_loc (how : Int → ByteArray × Bool) (s t : ByteArray) (fin a : Int) : ∀ (k : Nat) (q : Int) (out : List UInt8), 0 ≤ q → (quoteL how s fin a k q out).1 = true → ∀ k', k ≤ k' → quoteL how (s ++ t) fin a k' q out = quoteL how s fin a k q out := by
  intro k
  induction k with
  | zero => intro q out _ h; simp [quoteL] at h
  | succ k ih =>
    intro q out hq h k' hk
    obtain ⟨e, rfl⟩ : ∃ e, k' = e + 1 := ⟨k' - 1, by omega⟩
    unfold quoteL at h ⊢
    by_cases h1 : (s.size : Int) ≤ q ∨ bt s q = 10
    · rw [if_pos h1] at h; cases h
    · rw [if_neg h1] at h ⊢
      have hlt : q < (s.size : Int) := by
        rcases Int.lt_or_le q (s.size : Int) with h | h
        · exact h
        · exact absurd (.inl h) h1
      have h10 : ¬ bt s q = 10 := fun h => h1 (.inr h)
      rw [bt_left s t q hq hlt, if_neg (fun h => h.elim (fun h => by rw [ByteArray.size_append] at h; omega) h10)]
      by_cases h2 : bt s q = fin
      · rw [if_pos h2, if_pos h2]
      · rw [if_neg h2] at h ⊢
        rw [if_neg h2]
        by_cases h3 : bt s q = 92
        · rw [if_pos h3] at h ⊢
          rw [if_pos h3]
          by_cases h4 : (how (bt s (q + 1))).2 = false ∨ (s.size : Int) ≤ q + 1
          · rw [if_pos h4] at h; cases h
          · rw [if_neg h4] at h ⊢
            have hlt2 : q + 1 < (s.size : Int) := by
              rcases Int.lt_or_le (q + 1) (s.size : Int) with h | h
              · exact h
              · exact absurd (.inr h) h4
            have hh : ¬ (how (bt s (q + 1))).2 = false := fun h => h4 (.inl h)
            rw [bt_left s t (q + 1) (by omega) hlt2, if_neg (fun h => h.elim hh (fun h => by rw [ByteArray.size_append] at h; omega))]
            exact ih _ _ (by omega) h e (by omega)
        · rw [if_neg h3] at h ⊢
          rw [if_neg h3]
          exact ih _ _ (by omega) h e (by omega)
theorem two_blank : ∀ n, n < 256 → 0 ≤ oneI (n : Nat) → twoB ⟨#[n.toUInt8, 32]⟩ = false ∧ twoB ⟨#[n.toUInt8, 10]⟩ = false := by decide +kernel
theorem bt_out (s : ByteArray) (q : Int) (h : (s.size : Int) ≤ q) : bt s q = 0 := by unfold bt; rw [dif_neg (by omega)]
/-- a byte at a text's end: the other text's first -/
theorem bt_next (s t : ByteArray) (q : Int) (h0 : 0 ≤ q) (h1 : q ≤ (s.size : Int)) : (q < (s.size : Int) ∧ bt (s ++ t) q = bt s q) ∨ (q = (s.size : Int) ∧ bt (s ++ t) q = bt t 0 ∧ bt s q = 0) := by
  by_cases h : q < (s.size : Int)
  · exact .inl ⟨h, bt_left s t q h0 h⟩
  · obtain rfl : q = (s.size : Int) := by omega
    have hb := bt_right s t 0 (by omega)
    rw [Int.add_zero] at hb
    exact .inr ⟨rfl, hb, bt_out s _ (by omega)⟩
theorem num_loc (s t : ByteArray) (ht : 0 < t.size) (hc : bt t 0 = 32 ∨ bt t 0 = 10) (p : Int) (h0 : 0 ≤ p) (h1 : p < (s.size : Int)) : numE (s ++ t) p = numE s p := by
  have hd : dgt (bt t 0) = false := by rcases hc with h | h <;> rw [h] <;> rfl
  have hsz : (s ++ t).size = s.size + t.size := ByteArray.size_append
  have e1 := run_loc s t ht hd s.size p h0 (by omega) (by omega) (s ++ t).size (by omega)
  have hle := (@runTo_le dgt s s.size p)
  unfold numE
  rw [e1]
  rcases bt_next s t (runTo dgt s s.size p) (by omega) (by omega) with ⟨hl, hb⟩ | ⟨hl, hb, hz⟩
  · rw [hb]
    split
    · exact run_loc s t ht hd s.size _ (by omega) (by omega) (by omega) (s ++ t).size (by omega)
    · rfl
  · rw [hb, hz, if_neg (by rcases hc with h | h <;> rw [h] <;> decide), if_neg (by decide)]
theorem word_loc (s t : ByteArray) (ht : 0 < t.size) (hc : bt t 0 = 32 ∨ bt t 0 = 10) (p : Int) (h0 : 0 ≤ p) (h1 : p < (s.size : Int)) : wordE (s ++ t) p = wordE s p := by
  have hd : ltd (bt t 0) = false := by rcases hc with h | h <;> rw [h] <;> rfl
  have hsz : (s ++ t).size = s.size + t.size := ByteArray.size_append
  exact run_loc s t ht hd s.size p h0 (by omega) (by omega) (s ++ t).size (by omega)
theorem kind_loc (s t : ByteArray) (hc : bt t 0 = 32 ∨ bt t 0 = 10) (q : Int) (h0 : 0 ≤ q) (h1 : q ≤ (s.size : Int)) (x : ByteArray) : wordK (s ++ t) q x = wordK s q x := by
  unfold wordK
  rcases bt_next s t q h0 h1 with ⟨_, hb⟩ | ⟨_, hb, hz⟩
  · rw [hb]
  · rw [hb, hz]
    have e1 : ¬ bt t 0 = 40 := by rcases hc with h | h <;> rw [h] <;> decide
    have e2 : ¬ (0 : Int) = 40 := by decide
    rw [if_neg e1, if_neg e2]
theorem cut_two (s : ByteArray) (p : Int) (h0 : 0 ≤ p) (h1 : p + 2 ≤ (s.size : Int)) : cut s p (p + 2) = ⟨#[(bt s p).toNat.toUInt8, (bt s (p + 1)).toNat.toUInt8]⟩ := by
  have a0 : p.toNat < s.size := by omega
  have a1 : p.toNat + 1 < s.size := by omega
  have e0 := bt_at s p a0
  have e1 := bt_at s (p + 1) (by omega)
  have hp1 : (p + 1).toNat = p.toNat + 1 := by omega
  have hp2 : (p + 2).toNat = p.toNat + 2 := by omega
  rw [← e0, ← e1]
  simp only [hp1]
  unfold cut
  rw [hp2]
  have hd : s.data.size = s.size := rfl
  apply ByteArray.ext
  apply Array.ext
  · simp [ByteArray.data_extract]; omega
  · intro i hi _
    have hi2 : i < 2 := by simp [ByteArray.data_extract] at hi; omega
    rcases (show i = 0 ∨ i = 1 by omega) with rfl | rfl
    · simp [ByteArray.data_extract]; rfl
    · simp [ByteArray.data_extract]; rfl
theorem bt_nat (s : ByteArray) (p : Int) : ∃ n : Nat, bt s p = (n : Int) ∧ n < 256 := by
  unfold bt
  split
  · exact ⟨_, rfl, UInt8.toNat_lt _⟩
  · exact ⟨0, rfl, by omega⟩
theorem sign_loc (s t : ByteArray) (ht : 0 < t.size) (hc : bt t 0 = 32 ∨ bt t 0 = 10) (p : Int) (h0 : 0 ≤ p) (h1 : p < (s.size : Int)) (ts : List Tok) (h : (signE s p ts).1 = 0) : signE (s ++ t) p ts = signE s p ts := by
  have hsz : (s ++ t).size = s.size + t.size := ByteArray.size_append
  have hb := bt_left s t p h0 h1
  have hc1 := cut_left s t p (p + 1) h0 (by omega)
  unfold signE at h ⊢
  rw [hb, hc1]
  by_cases h2 : p + 2 ≤ (s.size : Int)
  · rw [cut_left s t p (p + 2) h0 h2, decide_eq_true h2, decide_eq_true (show p + 2 ≤ ((s ++ t).size : Int) by omega)]
  · have hd : decide (p + 2 ≤ (s.size : Int)) = false := decide_eq_false h2
    rw [hd, Bool.false_and, if_neg (by decide)] at h
    rw [hd, Bool.false_and]
    by_cases h3 : 0 ≤ oneI (bt s p)
    · obtain ⟨n, hn, hlt⟩ := bt_nat s p
      have hp1 : p + 1 = (s.size : Int) := by omega
      have hbn := bt_right s t 0 (by omega)
      rw [Int.add_zero, ← hp1] at hbn
      rw [hn] at h3
      have htw := two_blank n hlt h3
      have e : twoB (cut (s ++ t) p (p + 2)) = false := by
        rw [cut_two _ _ h0 (by omega), hb, hbn, hn]
        rcases hc with h | h <;> rw [h]
        · exact htw.1
        · exact htw.2
      rw [e, Bool.and_false, if_neg (show ¬ false = true by decide), if_neg (show ¬ false = true by decide)]
    · rw [decide_eq_false h3, if_neg (by decide)] at h
      cases h
/-- a step that goes well within s goes alike where more stands behind (but for a comment, where a blank follows) -/
theorem next_loc (s t : ByteArray) (ht : 0 < t.size) (hc : bt t 0 = 32 ∨ bt t 0 = 10) (p : Int) (h0 : 0 ≤ p) (h1 : p < (s.size : Int)) (ts : List Tok) (h : (nextE s p ts).1 = 0) (hh : bt s p = 35 → bt t 0 = 10) : nextE (s ++ t) p ts = nextE s p ts := by
  have hsz : (s ++ t).size = s.size + t.size := ByteArray.size_append
  have hb := bt_left s t p h0 h1
  have hn := num_loc s t ht hc p h0 h1
  have hw := word_loc s t ht hc p h0 h1
  have hnl := numE_le (s := s) (p := p) (by omega) h0
  have hwl := wordE_le (s := s) (p := p) (by omega)
  have hk := kind_loc s t hc (wordE s p) (by omega) hwl.2
  have hcn := cut_left s t p (numE s p) h0 hnl.2
  have hcw := cut_left s t p (wordE s p) h0 hwl.2
  have hnx := bt_next s t (p + 1) (by omega) (by omega)
  have hdn : dgt (bt (s ++ t) (p + 1)) = dgt (bt s (p + 1)) := by
    rcases hnx with ⟨_, e⟩ | ⟨_, e, z⟩
    · rw [e]
    · rw [e, z]; rcases hc with h | h <;> rw [h] <;> rfl
  have hq : ∀ how fin, errQ (quoteL how s fin p (s.size + 1) (p + 1) []).1 = 0 → quoteL how (s ++ t) fin p ((s ++ t).size + 1) (p + 1) [] = quoteL how s fin p (s.size + 1) (p + 1) [] := by
    intro how fin h
    refine quote_loc how s t fin p _ _ _ (by omega) ?_ _ (by omega)
    cases hc : (quoteL how s fin p (s.size + 1) (p + 1) []).1 with
    | true => rfl
    | false => rw [hc] at h; cases h
  have h92 : (bt s p == 92 && bt (s ++ t) (p + 1) == 10) = (bt s p == 92 && bt s (p + 1) == 10) := by
    rcases hnx with ⟨_, e⟩ | ⟨e1, e, z⟩
    · rw [e]
    · cases hb92 : (bt s p == 92) with
      | false => rfl
      | true =>
        exfalso
        have hv : bt s p = 92 := by simpa using hb92
        have hone : oneI (92 : Int) < 0 := by decide +kernel
        have hbad : (nextE s p ts).1 = 9 := by
          simp [nextE, hv, z, dgt, ltr, signE, show ¬ p + 2 ≤ (s.size : Int) by omega, show ¬ 0 ≤ oneI (92 : Int) by omega]
        rw [hbad] at h
        cases h
  unfold nextE at h ⊢
  rw [hb, hdn, h92, hn, hw, hk, hcn, hcw]
  split at h
  · rename_i hv
    simp only [if_pos hv]
  rename_i hv0
  simp only [if_neg hv0]
  split at h
  · rename_i hv
    have hc10 := hh (by simpa using hv)
    simp only [if_pos hv]
    rw [run_loc s t ht (by rw [hc10]; rfl) s.size p h0 (by omega) (by omega) (s ++ t).size (by omega)]
  rename_i hv1
  simp only [if_neg hv1]
  split at h
  · rename_i hv
    simp only [if_pos hv]
  rename_i hv2
  simp only [if_neg hv2]
  split at h
  · rename_i hv
    simp only [if_pos hv]
  rename_i hv3
  simp only [if_neg hv3]
  split at h
  · rename_i hv
    simp only [if_pos hv]
  rename_i hv4
  simp only [if_neg hv4]
  split at h
  · rename_i hv
    simp only [if_pos hv]
  rename_i hv5
  simp only [if_neg hv5]
  split at h
  · rename_i hv
    simp only [if_pos hv]
    rw [hq _ _ h]
  rename_i hv6
  simp only [if_neg hv6]
  split at h
  · rename_i hv
    simp only [if_pos hv]
    rw [hq _ _ h]
  rename_i hv7
  simp only [if_neg hv7]
  exact sign_loc s t ht hc p h0 h1 ts h
end Go.Proofs.YtpnkcihiliagcaaDoor.Pr
