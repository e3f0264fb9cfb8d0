/- Blanks and a comment change nothing: the pure statement. -/
import Derived.Test.YtpnkcihiliagcaaDoorPuLxN
import Derived.Test.YtpnkcihiliagcaaDoorPr12
namespace Go.Proofs.YtpnkcihiliagcaaDoor.Pr
open Go Go.RowKit Go.Proofs.YtpnkcihiliagcaaDoorW.PrintWords Go.Proofs.YtpnkcihiliagcaaDoorW.PrintLast Go.Proofs.YtpnkcihiliagcaaDoorW.PrintMore
set_option linter.unusedVariables false

theorem run_in {P : Int → Bool} (s t : ByteArray) : ∀ (d : Nat) (p : Int), 0 ≤ p → (s.size : Int) - p ≤ d → runTo P s d p < (s.size : Int) → ∀ d' : Nat, d ≤ d' → runTo P (s ++ t) d' p = runTo P s d p := by
  intro d
  induction d with
  | zero => intro p h0 h1 h2; rw [runTo] at h2; omega
  | succ d ih =>
    intro p h0 h1 h2 d' hd
    obtain ⟨e, rfl⟩ : ∃ e, d' = e + 1 := ⟨d' - 1, by omega⟩
    rw [runTo] at h2
    rw [runTo, runTo]
    by_cases hp : p < (s.size : Int)
    · rw [if_pos hp] at h2
      rw [if_pos hp, if_pos (by rw [ByteArray.size_append]; omega), bt_left s t p h0 hp]
      by_cases hP : P (bt s p) = true
      · rw [if_pos hP] at h2
        rw [if_pos hP, if_pos hP]
        exact ih _ (by omega) (by omega) h2 e (by omega)
      · rw [if_neg hP, if_neg hP]
    · rw [if_neg hp] at h2; omega
theorem run_all {P : Int → Bool} (s : ByteArray) : ∀ (d : Nat) (p : Int), 0 ≤ p → p ≤ (s.size : Int) → (s.size : Int) - p ≤ d → (∀ q : Int, p ≤ q → q < (s.size : Int) → P (bt s q) = true) → runTo P s d p = s.size := by
  intro d
  induction d with
  | zero => intro p h0 h1 h2 _; rw [runTo]; omega
  | succ d ih =>
    intro p h0 h1 h2 hq
    rw [runTo]
    by_cases hp : p < (s.size : Int)
    · rw [if_pos hp, if_pos (hq p (by omega) hp)]
      exact ih _ (by omega) (by omega) (by omega) (fun q h h' => hq q (by omega) h')
    · rw [if_neg hp]; omega
theorem run_hit {P : Int → Bool} (s : ByteArray) : ∀ (d : Nat) (p : Int), 0 ≤ p → p ≤ (s.size : Int) → (s.size : Int) - p ≤ d → runTo P s d p = s.size → ∀ q : Int, p ≤ q → q < (s.size : Int) → P (bt s q) = true := by
  intro d
  induction d with
  | zero => intro p h0 h1 h2 _ q hq hq2; omega
  | succ d ih =>
    intro p h0 h1 h2 h q hq hq2
    rw [runTo, if_pos (by omega)] at h
    by_cases hP : P (bt s p) = true
    · rw [if_pos hP] at h
      by_cases hpq : q = p
      · rw [hpq]; exact hP
      · exact ih (p + 1) (by omega) (by omega) (by omega) h q (by omega) hq2
    · rw [if_neg hP] at h; omega
theorem next_hash (s : ByteArray) (p : Int) (ts : List Tok) (h : bt s p = 35) : nextE s p ts = (0, runTo nnl s s.size p, ts) := by simp [nextE, h]
theorem lexE_end (s : ByteArray) (k : Nat) (ts : List Tok) : lexE s k s.size ts = (ts ++ [⟨0, ⟨#[]⟩, (s.size : Int)⟩], 0, 0) := by
  cases k with
  | zero => rfl
  | succ k => rw [lexE, if_neg (by omega)]
theorem lexE_blank (s t : ByteArray) (h0 : bt t 0 = 32) (h1 : bt t 1 = 9) (h2 : bt t 2 = 35) (hsz : 3 ≤ t.size) (hn : ∀ q : Int, 0 ≤ q → q < (t.size : Int) → bt t q ≠ 10) : ∀ (k : Nat) (p : Int) (ts l : List Tok), 0 ≤ p → p ≤ (s.size : Int) → (s.size : Int) - p < k → lexE s k p ts = (l ++ [⟨0, ⟨#[]⟩, (s.size : Int)⟩], 0, 0) → ∀ k' : Nat, ((s ++ t).size : Int) - p < k' →
    lexE (s ++ t) k' p ts = (l ++ [⟨0, ⟨#[]⟩, ((s ++ t).size : Int)⟩], 0, 0) := by
  have hs : (s ++ t).size = s.size + t.size := ByteArray.size_append
  have hnt : ∀ q : Int, (s.size : Int) ≤ q → q < ((s ++ t).size : Int) → nnl (bt (s ++ t) q) = true := by
    intro q hq hq2
    have := bt_right s t (q - s.size) (by omega)
    rw [show (s.size : Int) + (q - s.size) = q by omega] at this
    rw [this]
    have := hn (q - s.size) (by omega) (by omega)
    unfold nnl
    simpa using this
  intro k
  induction k with
  | zero => intro p ts l _ _ h; omega
  | succ k ih =>
    intro p ts l hp0 hp1 hpk he k' hk'
    by_cases hp : p < (s.size : Int)
    · obtain ⟨e, rfl⟩ : ∃ e, k' = e + 1 := ⟨k' - 1, by omega⟩
      rw [lexE, if_pos hp] at he
      rw [lexE, if_pos (by omega)]
      by_cases her : (nextE s p ts).1 = 0
      · rw [if_pos her] at he
        have hok := next_ok hp0 hp her
        by_cases hh : bt s p = 35
        · have e1 := next_hash s p ts hh
          have e2 := next_hash (s ++ t) p ts (by rw [bt_left s t p hp0 hp, hh])
          rw [e1] at he hok
          rw [e2]
          simp only [if_true] at he hok ⊢
          by_cases hin : runTo nnl s s.size p < (s.size : Int)
          · rw [run_in s t s.size p hp0 (by omega) hin (s ++ t).size (by omega)]
            exact ih _ _ _ (by omega) (by omega) (by omega) he e (by omega)
          · have hq : runTo nnl s s.size p = s.size := by omega
            have hall := run_hit s s.size p hp0 (by omega) (by omega) hq
            have hq2 : runTo nnl (s ++ t) (s ++ t).size p = (s ++ t).size := by
              refine run_all _ _ _ hp0 (by omega) (by omega) (fun q ha hb => ?_)
              by_cases hqs : q < (s.size : Int)
              · rw [bt_left s t q (by omega) hqs]; exact hall q ha hqs
              · exact hnt q (by omega) hb
            rw [hq, lexE_end] at he
            rw [hq2, lexE_end]
            injection he with he _
            rw [List.append_cancel_right he]
        · have hl := next_loc s t (by omega) (.inl h0) p hp0 hp ts her (fun h => absurd h hh)
          rw [hl, if_pos her]
          exact ih _ _ _ (by omega) hok.2.1 (by omega) he e (by omega)
      · rw [if_neg her] at he
        injection he with he _
        simp at he
    · obtain rfl : p = (s.size : Int) := by omega
      rw [lexE_end] at he
      injection he with he _
      obtain rfl := List.append_cancel_right he
      have b0 := bt_right s t 0 (by omega)
      have b1 := bt_right s t 1 (by omega)
      have b2 := bt_right s t 2 (by omega)
      rw [Int.add_zero, h0] at b0
      rw [h1] at b1
      rw [h2] at b2
      obtain ⟨e, rfl⟩ : ∃ e, k' = e + 3 := ⟨k' - 3, by omega⟩
      have n0 : nextE (s ++ t) s.size ts = (0, (s.size : Int) + 1, ts) := by simp [nextE, b0]
      have n1 : nextE (s ++ t) ((s.size : Int) + 1) ts = (0, (s.size : Int) + 1 + 1, ts) := by simp [nextE, b1]
      have n2 := next_hash (s ++ t) ((s.size : Int) + 2) ts b2
      rw [run_all (s ++ t) (s ++ t).size _ (by omega) (by omega) (by omega) (fun q ha hb => hnt q (by omega) hb)] at n2
      rw [lexE, if_pos (by omega), n0]
      simp only [if_true]
      rw [lexE, if_pos (by omega), n1]
      simp only [if_true]
      rw [lexE, if_pos (by omega), show (s.size : Int) + 1 + 1 = s.size + 2 by omega, n2]
      simp only [if_true]
      rw [lexE_end]
theorem rdb_at (xs : List Tok) (i : Nat) (h : i < xs.length) : rd_T29 xs (i : Int) = xs[i] := by
  simp [rd_T29, List.getD, h]
theorem blanks_loop (l : List Tok) (x y : Tok) (hl : l.length ≤ 1000000) (d : Nat) : ∀ i : Nat, i + d = l.length → Ev (fun k => scribelaw11_LexBlanks.l1 k (l ++ [x]) (l ++ [y]) (i : Int)) true := by
  have hw0 : wrap64 (((l ++ [x]).length : Int) - 1) = (l.length : Int) := by
    rw [List.length_append, List.length_singleton, w64 (by omega) (by omega)]; omega
  induction d with
  | zero =>
    intro i hi
    refine Ev.succ ?_
    simp only [scribelaw11_LexBlanks.l1]
    rw [hw0]
    exact Ev.neg (by omega) (Ev.bindc awake11_ev (Ev.now _))
  | succ d ih =>
    intro i hi
    refine Ev.succ ?_
    simp only [scribelaw11_LexBlanks.l1]
    rw [hw0]
    have hw : wrap64 ((i : Int) + 1) = ((i + 1 : Nat) : Int) := by rw [w64 (by omega) (by omega)]; omega
    refine Ev.pos (by omega) (Ev.pos (by omega) (Ev.pos (by simp; omega) (Ev.pos (by simp; omega) ?_)))
    rw [rdb_at _ i (by simp; omega), rdb_at _ i (by simp; omega), List.getElem_append_left (by omega), List.getElem_append_left (by omega), hw]
    exact Ev.neg (by simp) (ih (i + 1) (by omega))
theorem blanks_note (b c : ByteArray) (hb : b.size ≤ 1000) (hc : c.size ≤ 1000) (l : List Tok) (hll : l.length ≤ 100000) (hl : lex_Lex.f b = some (l ++ [⟨0, ⟨#[]⟩, (b.size : Int)⟩], 0, 0)) (d : Nat) : ∀ i : Nat, i + d = c.size → (∀ q : Int, 0 ≤ q → q < (i : Int) → bt c q ≠ 10) → Ev (fun k => scribelaw11_LexBlanks.l0 k b c (l ++ [⟨0, ⟨#[]⟩, (b.size : Int)⟩]) (i : Int)) true := by
  induction d with
  | zero =>
    intro i hi hq
    have hlx : lex_Lex.f ((b ++ (⟨#[32, 9, 35]⟩ : ByteArray)) ++ c) = some (l ++ [⟨0, ⟨#[]⟩, (((b ++ (⟨#[32, 9, 35]⟩ : ByteArray)) ++ c).size : Int)⟩], 0, 0) := by
      have hz3 : (⟨#[32, 9, 35]⟩ : ByteArray).size = 3 := rfl
      have hsz : (b ++ ((⟨#[32, 9, 35]⟩ : ByteArray) ++ c)).size = b.size + (3 + c.size) := by rw [ByteArray.size_append, ByteArray.size_append, hz3]
      rw [ByteArray.append_assoc]
      unfold lex_Lex.f at hl ⊢
      rw [if_neg (by omega)] at hl
      rw [if_neg (by omega)]
      refine congrArg some ?_
      have hl' := Option.some.inj hl
      refine lexE_blank b _ ?_ ?_ ?_ (by rw [ByteArray.size_append, hz3]; omega) ?_ (b.size + 1) 0 [] l (by omega) (by omega) (by omega) hl' _ (by omega)
      · rw [bt_left _ _ _ (by omega) (by rw [hz3]; omega)]; rfl
      · rw [bt_left _ _ _ (by omega) (by rw [hz3]; omega)]; rfl
      · rw [bt_left _ _ _ (by omega) (by rw [hz3]; omega)]; rfl
      · intro q h0 h1
        rw [ByteArray.size_append, hz3] at h1
        by_cases h3 : q < 3
        · rw [bt_left _ _ _ h0 (by rw [hz3]; omega)]
          rcases (show q = 0 ∨ q = 1 ∨ q = 2 by omega) with rfl | rfl | rfl <;> decide
        · have := bt_right (⟨#[32, 9, 35]⟩ : ByteArray) c (q - 3) (by omega)
          rw [hz3, show ((3 : Nat) : Int) + (q - 3) = q by omega] at this
          rw [this]
          exact hq _ (by omega) (by omega)
    refine Ev.succ ?_
    simp only [scribelaw11_LexBlanks.l0]
    refine Ev.neg (by omega) (Ev.pos (by omega) (Ev.pos (by rw [ByteArray.size_append, show (⟨#[32, 9, 35]⟩ : ByteArray).size = 3 from rfl]; omega) (Ev.bindc hlx (Ev.pos (by simp) ?_))))
    simp only [List.length_append, List.length_singleton, bne_self_eq_false]
    refine Ev.succ ?_
    simp only [scribelaw11_LexBlanks.j2]
    exact Ev.neg (by decide) (blanks_loop l _ _ (by omega) _ 0 (Nat.zero_add _))
  | succ d ih =>
    intro i hi hq
    refine Ev.succ ?_
    simp only [scribelaw11_LexBlanks.l0]
    refine Ev.pos (by omega) (Ev.pos (by omega) ?_)
    by_cases h10 : bt c (i : Int) = 10
    · exact Ev.pos h10 (Ev.bindc awake11_ev (Ev.now _))
    · have hw : wrap64 ((i : Int) + 1) = ((i + 1 : Nat) : Int) := by rw [w64 (by omega) (by omega)]; omega
      refine Ev.neg h10 ?_
      rw [hw]
      refine ih (i + 1) (by omega) (fun q h0 h1 => ?_)
      by_cases hqi : q = (i : Int)
      · rw [hqi]; exact h10
      · exact hq q h0 (by omega)
theorem LexBlanks_ev (a0 a1 : ByteArray) (_w0 : a0.size ≤ 140737488351232) (_w1 : a1.size ≤ 140737488351232) : Ev (fun k => scribelaw11_LexBlanks.f k a0 a1) true := by
  unfold scribelaw11_LexBlanks.f
  obtain ⟨b, hb, hbs⟩ := cut_some a0 200
  obtain ⟨c, hc, hcs⟩ := cut_some a1 50
  refine Ev.bindc hb (Ev.bindc hc ?_)
  rcases Lex_good b (by omega) with ⟨l, hl, hg⟩ | ⟨q, hq, h0, h1⟩
  · have hlen := hg.len
    refine Ev.bindc hl (Ev.pos rfl ?_)
    rw [show ((((l ++ [(⟨0, ⟨#[]⟩, (b.size : Int)⟩ : Tok)]).length : Int) == 0)) = false by simp; omega]
    refine Ev.succ ?_
    simp only [scribelaw11_LexBlanks.j0]
    exact Ev.neg (by decide) (blanks_note b c (by omega) (by omega) l (by omega) hl _ 0 (Nat.zero_add _) (fun q h0 h1 => by omega))
  · refine Ev.bindc hq (Ev.neg (by simp) (Ev.succ ?_))
    simp only [scribelaw11_LexBlanks.j0]
    exact Ev.pos (by simp) (Ev.bindc awake11_ev (Ev.now _))
end Go.Proofs.YtpnkcihiliagcaaDoor.Pr
