/- lex: what Lex's tokens are like; plain Lean. -/
import Derived.Test.YtpnkcihiliagcaaDoorPuLxL
import Derived.Test.YtpnkcihiliagcaaDoorPuA
import Derived.Test.YtpnkcihiliagcaaDoorPr2
import Derived.Test.YtpnkcihiliagcaaDoorPr9
namespace Go.Proofs.YtpnkcihiliagcaaDoor.Pr
open Go Go.RowKit Go.Proofs.YtpnkcihiliagcaaDoorW.PrintWords Go.Proofs.YtpnkcihiliagcaaDoorW.PrintLast Go.Proofs.YtpnkcihiliagcaaDoorW.PrintMore

theorem awake11_ev : scribelaw11_awake.f = some true := by kernel_rfl
structure Good (ts : List Tok) (p : Int) : Prop where
  all : ∀ t ∈ ts, 0 ≤ t.f2 ∧ t.f2 < p ∧ t.f0 ≠ 0
  asc : ts.Pairwise (fun a b => a.f2 < b.f2)
  len : (ts.length : Int) ≤ p
theorem Good.snoc {ts : List Tok} {p q : Int} {t : Tok} (h : Good ts p) (h0 : 0 ≤ p) (hpq : p < q) (h2 : t.f2 = p) (h3 : t.f0 ≠ 0) : Good (ts ++ [t]) q := by
  refine ⟨fun x hx => ?_, List.pairwise_append.2 ⟨h.asc, by simp, fun a ha b hb => ?_⟩, by have := h.len; simp; omega⟩
  · rcases List.mem_append.1 hx with hx | hx
    · have := h.all x hx; exact ⟨this.1, by omega, this.2.2⟩
    · obtain rfl : x = t := by simpa using hx
      exact ⟨by omega, by omega, h3⟩
  · obtain rfl : b = t := by simpa using hb
    have := h.all a ha
    omega
theorem Good.mono {ts : List Tok} {p q : Int} (h : Good ts p) (hpq : p < q) : Good ts q := ⟨fun t ht => by have := h.all t ht; exact ⟨this.1, by omega, this.2.2⟩, h.asc, by have := h.len; omega⟩
theorem wordK_ne (s : ByteArray) (q : Int) (x : ByteArray) : wordK s q x ≠ 0 := by
  unfold wordK
  repeat' split
  all_goals decide
theorem next_tok (s : ByteArray) (p : Int) (ts : List Tok) (h : (nextE s p ts).1 = 0) : (nextE s p ts).2.2 = ts ∨ ∃ t : Tok, (nextE s p ts).2.2 = ts ++ [t] ∧ t.f2 = p ∧ t.f0 ≠ 0 := by
  have hq : ∀ how fin (kind : Int), kind ≠ 0 → tsQ (quoteL how s fin p (s.size + 1) (p + 1) []) kind p ts = ts ∨ ∃ t : Tok, tsQ (quoteL how s fin p (s.size + 1) (p + 1) []) kind p ts = ts ++ [t] ∧ t.f2 = p ∧ t.f0 ≠ 0 := by
    intro how fin kind hk
    unfold tsQ
    split
    · exact .inr ⟨_, rfl, rfl, hk⟩
    · exact .inl rfl
  unfold nextE at h ⊢
  split at h
  · rw [if_pos ‹_›]; exact .inl rfl
  rw [if_neg ‹_›]
  split at h
  · rw [if_pos ‹_›]; exact .inl rfl
  rw [if_neg ‹_›]
  split at h
  · rw [if_pos ‹_›]; exact .inl rfl
  rw [if_neg ‹_›]
  split at h
  · rw [if_pos ‹_›]; exact .inr ⟨_, rfl, rfl, by simp only [ne_eq]; decide⟩
  rw [if_neg ‹_›]
  split at h
  · rw [if_pos ‹_›]; exact .inr ⟨_, rfl, rfl, by simp only [ne_eq]; decide⟩
  rw [if_neg ‹_›]
  split at h
  · rw [if_pos ‹_›]; exact .inr ⟨_, rfl, rfl, wordK_ne _ _ _⟩
  rw [if_neg ‹_›]
  split at h
  · rw [if_pos ‹_›]; exact hq howS 34 3 (by decide)
  rw [if_neg ‹_›]
  split at h
  · rw [if_pos ‹_›]; exact hq howR 47 4 (by decide)
  rw [if_neg ‹_›]
  unfold signE at h ⊢
  split at h
  · rw [if_pos ‹_›]; exact .inr ⟨_, rfl, rfl, by simp only [ne_eq]; decide⟩
  rw [if_neg ‹_›]
  split at h
  · rw [if_pos ‹_›]; exact .inr ⟨_, rfl, rfl, by simp only [ne_eq]; decide⟩
  · cases h
theorem quote_bad (how : Int → ByteArray × Bool) (s : ByteArray) (fin a : Int) (h0 : 0 ≤ a) (h1 : a < (s.size : Int)) (k : Nat) : ∀ (q : Int) (out : List UInt8), 0 ≤ q → (quoteL how s fin a k q out).1 = false → 0 ≤ (quoteL how s fin a k q out).2.1 ∧ (quoteL how s fin a k q out).2.1 < s.size := by
  induction k with
  | zero => intro q out _ _; exact ⟨h0, h1⟩
  | succ k ih =>
    intro q out hq
    unfold quoteL
    by_cases h2 : (s.size : Int) ≤ q ∨ bt s q = 10
    · rw [if_pos h2]; intro _; exact ⟨h0, h1⟩
    · rw [if_neg h2]
      by_cases h2 : bt s q = fin
      · rw [if_pos h2]; intro h; cases h
      · rw [if_neg h2]
        by_cases h3 : bt s q = 92
        · rw [if_pos h3]
          by_cases h4 : (how (bt s (q + 1))).2 = false ∨ (s.size : Int) ≤ q + 1
          · rw [if_pos h4]; intro _; simp only; omega
          · rw [if_neg h4]; intro h; exact ih _ _ (by omega) h
        · rw [if_neg h3]; intro h; exact ih _ _ (by omega) h
theorem next_bad {s : ByteArray} {p : Int} {ts : List Tok} (h0 : 0 ≤ p) (h1 : p < (s.size : Int)) (h : (nextE s p ts).1 ≠ 0) : (nextE s p ts).1 = 9 ∧ 0 ≤ (nextE s p ts).2.1 ∧ (nextE s p ts).2.1 < s.size := by
  have hq : ∀ how fin, errQ (quoteL how s fin p (s.size + 1) (p + 1) []).1 ≠ 0 → errQ (quoteL how s fin p (s.size + 1) (p + 1) []).1 = 9 ∧ 0 ≤ (quoteL how s fin p (s.size + 1) (p + 1) []).2.1 ∧ (quoteL how s fin p (s.size + 1) (p + 1) []).2.1 < s.size := by
    intro how fin h
    have hb : (quoteL how s fin p (s.size + 1) (p + 1) []).1 = false := by
      cases hc : (quoteL how s fin p (s.size + 1) (p + 1) []).1 with
      | false => rfl
      | true => rw [hc] at h; exact absurd rfl h
    exact ⟨by rw [hb]; rfl, quote_bad how s fin p h0 h1 _ _ _ (by omega) hb⟩
  unfold nextE at h ⊢
  split at h
  · exact absurd rfl h
  rw [if_neg ‹_›]
  split at h
  · exact absurd rfl h
  rw [if_neg ‹_›]
  split at h
  · exact absurd rfl h
  rw [if_neg ‹_›]
  split at h
  · exact absurd rfl h
  rw [if_neg ‹_›]
  split at h
  · exact absurd rfl h
  rw [if_neg ‹_›]
  split at h
  · exact absurd rfl h
  rw [if_neg ‹_›]
  split at h
  · rw [if_pos ‹_›]; exact hq howS 34 h
  rw [if_neg ‹_›]
  split at h
  · rw [if_pos ‹_›]; exact hq howR 47 h
  rw [if_neg ‹_›]
  unfold signE at h ⊢
  split at h
  · exact absurd rfl h
  rw [if_neg ‹_›]
  split at h
  · exact absurd rfl h
  · rw [if_neg ‹_›]; exact ⟨rfl, h0, h1⟩
theorem lexE_good (s : ByteArray) : ∀ (k : Nat) (p : Int) (ts : List Tok), 0 ≤ p → p ≤ (s.size : Int) → (s.size : Int) - p < k → Good ts p →
    (∃ l, lexE s k p ts = (l ++ [⟨0, ⟨#[]⟩, (s.size : Int)⟩], 0, 0) ∧ Good l s.size) ∨ (∃ q, lexE s k p ts = ([], q, 9) ∧ 0 ≤ q ∧ q < s.size) := by
  intro k
  induction k with
  | zero => intro p ts _ h1 h2; omega
  | succ k ih =>
    intro p ts h0 h1 h2 hg
    unfold lexE
    by_cases hlt : p < (s.size : Int)
    · rw [if_pos hlt]
      by_cases he : (nextE s p ts).1 = 0
      · rw [if_pos he]
        have hok := next_ok h0 hlt he
        refine ih _ _ (by omega) hok.2.1 (by omega) ?_
        rcases next_tok s p ts he with h | ⟨t, h, ht, hk⟩
        · rw [h]; exact hg.mono hok.1
        · rw [h]; exact hg.snoc h0 hok.1 ht hk
      · rw [if_neg he]
        have hb := next_bad h0 hlt he
        exact .inr ⟨_, by rw [hb.1], hb.2⟩
    · rw [if_neg hlt]
      obtain rfl : p = (s.size : Int) := by omega
      exact .inl ⟨ts, rfl, hg⟩
theorem Lex_good (s : ByteArray) (hs : s.size ≤ 4000) : (∃ l, lex_Lex.f s = some (l ++ [⟨0, ⟨#[]⟩, (s.size : Int)⟩], 0, 0) ∧ Good l s.size) ∨ (∃ q, lex_Lex.f s = some ([], q, 9) ∧ 0 ≤ q ∧ q < s.size) := by
  unfold lex_Lex.f
  rw [if_neg (by omega)]
  rcases lexE_good s (s.size + 1) 0 [] (by omega) (by omega) (by omega) ⟨by simp, by simp, by simp⟩ with ⟨l, h1, h2⟩ | ⟨q, h1, h2⟩
  · exact .inl ⟨l, by rw [h1], h2⟩
  · exact .inr ⟨q, by rw [h1], h2⟩
theorem cut_some (a : ByteArray) (n : Nat) : ∃ b, scribelaw01_Cut.f a n = some b ∧ b.size ≤ n := by
  unfold scribelaw01_Cut.f
  by_cases h : (a.size : Int) > n
  · rw [if_pos h, if_pos (by omega), if_pos (by omega)]
    exact ⟨_, rfl, by simp; omega⟩
  · rw [if_neg h]
    exact ⟨_, rfl, by omega⟩
end Go.Proofs.YtpnkcihiliagcaaDoor.Pr
