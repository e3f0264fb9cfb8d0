/- lex: what stands behind other bytes is read as if it stood alone, each place that much further on; plain Lean. -/
import Derived.Test.YtpnkcihiliagcaaDoorPuLxN
namespace Go.Proofs.YtpnkcihiliagcaaDoor.Pr
open Go Go.RowKit Go.Proofs.YtpnkcihiliagcaaDoorW.PrintWords Go.Proofs.YtpnkcihiliagcaaDoorW.PrintLast Go.Proofs.YtpnkcihiliagcaaDoorW.PrintMore
set_option linter.unusedVariables false

theorem run_sh {P : Int → Bool} (u v : ByteArray) : ∀ (d d' : Nat) (q : Int), 0 ≤ q → (v.size : Int) - q ≤ d → (v.size : Int) - q ≤ d' → runTo P (u ++ v) d' ((u.size : Int) + q) = (u.size : Int) + runTo P v d q := by
  have hs : (u ++ v).size = u.size + v.size := ByteArray.size_append
  intro d
  induction d with
  | zero =>
    intro d' q h0 h1 h2
    cases d' with
    | zero => rfl
    | succ d' =>
      have e : runTo P (u ++ v) (d' + 1) ((u.size : Int) + q) = (u.size : Int) + q := by rw [runTo, if_neg (by omega)]
      exact e
  | succ d ih =>
    intro d' q h0 h1 h2
    cases d' with
    | zero =>
      have e : runTo P v (d + 1) q = q := by rw [runTo, if_neg (by omega)]
      rw [e]; rfl
    | succ d' =>
      rw [runTo, runTo, bt_right u v q h0]
      by_cases hq : q < (v.size : Int)
      · rw [if_pos hq, if_pos (by omega)]
        split
        · rw [Int.add_assoc]; exact ih d' (q + 1) (by omega) (by omega) (by omega)
        · rfl
      · rw [if_neg hq, if_neg (by omega)]
theorem quote_sh (how : Int → ByteArray × Bool) (u v : ByteArray) (fin a : Int) : ∀ (k k' : Nat) (q : Int) (out : List UInt8), 0 ≤ q → q ≤ (v.size : Int) → (v.size : Int) - q < k → (v.size : Int) - q < k' →
    quoteL how (u ++ v) fin ((u.size : Int) + a) k' ((u.size : Int) + q) out = ((quoteL how v fin a k q out).1, (u.size : Int) + (quoteL how v fin a k q out).2.1, (quoteL how v fin a k q out).2.2) := by
  have hs : (u ++ v).size = u.size + v.size := ByteArray.size_append
  intro k
  induction k with
  | zero => intro k' q out h0 h1 h2; omega
  | succ k ih =>
    intro k' q out h0 h1 h2 h3
    obtain ⟨e, rfl⟩ : ∃ e, k' = e + 1 := ⟨k' - 1, by omega⟩
    have b0 := bt_right u v q h0
    have b1 := bt_right u v (q + 1) (by omega)
    rw [← Int.add_assoc] at b1
    unfold quoteL
    rw [b0, b1]
    by_cases c1 : (v.size : Int) ≤ q ∨ bt v q = 10
    · rw [if_pos c1, if_pos (by omega)]
    · rw [if_neg c1, if_neg (by omega)]
      by_cases c2 : bt v q = fin
      · rw [if_pos c2, if_pos c2, Int.add_assoc]
      · rw [if_neg c2, if_neg c2]
        by_cases c3 : bt v q = 92
        · rw [if_pos c3, if_pos c3]
          by_cases c4 : (how (bt v (q + 1))).2 = false ∨ (v.size : Int) ≤ q + 1
          · rw [if_pos c4, if_pos (by rcases c4 with c4 | c4; exact .inl c4; exact .inr (by omega))]
          · rw [if_neg c4, if_neg (by intro h; rcases h with h | h; exact c4 (.inl h); exact c4 (.inr (by omega))), Int.add_assoc]
            exact ih e (q + 2) _ (by omega) (by omega) (by omega) (by omega)
        · rw [if_neg c3, if_neg c3, Int.add_assoc]
          exact ih e (q + 1) _ (by omega) (by omega) (by omega) (by omega)
theorem num_sh (u v : ByteArray) (p : Int) (h0 : 0 ≤ p) : numE (u ++ v) ((u.size : Int) + p) = (u.size : Int) + numE v p := by
  have hs : (u ++ v).size = u.size + v.size := ByteArray.size_append
  have hr := (@runTo_le dgt v v.size p).1
  unfold numE
  rw [run_sh u v v.size _ p h0 (by omega) (by omega), bt_right u v _ (by omega)]
  split
  · rw [Int.add_assoc]; exact run_sh u v v.size _ _ (by omega) (by omega) (by omega)
  · rfl
theorem word_sh (u v : ByteArray) (p : Int) (h0 : 0 ≤ p) : wordE (u ++ v) ((u.size : Int) + p) = (u.size : Int) + wordE v p := by
  have hs : (u ++ v).size = u.size + v.size := ByteArray.size_append
  unfold wordE
  exact run_sh u v v.size _ p h0 (by omega) (by omega)
theorem kind_sh (u v : ByteArray) (q : Int) (h0 : 0 ≤ q) (x : ByteArray) : wordK (u ++ v) ((u.size : Int) + q) x = wordK v q x := by
  unfold wordK
  rw [bt_right u v q h0]
theorem cut_sh (u v : ByteArray) (a b : Int) (h0 : 0 ≤ a) (h1 : 0 ≤ b) : cut (u ++ v) ((u.size : Int) + a) ((u.size : Int) + b) = cut v a b := by
  have e1 : ((u.size : Int) + a).toNat = u.size + a.toNat := by omega
  have e2 : ((u.size : Int) + b).toNat = u.size + b.toNat := by omega
  unfold cut
  rw [e1, e2]
  apply ByteArray.ext
  have hd : u.data.size = u.size := rfl
  have x1 : u.data.extract (u.size + a.toNat) (u.size + b.toNat) = #[] := by rw [← hd]; simp
  simp [ByteArray.data_extract, ByteArray.data_append, Array.extract_append, hd, x1]
/-- a token so much further on -/
def shT (n : Nat) (t : Tok) : Tok := ⟨t.f0, t.f1, (n : Int) + t.f2⟩
theorem sign_sh (u v : ByteArray) (p : Int) (h0 : 0 ≤ p) (pre ts : List Tok) : signE (u ++ v) ((u.size : Int) + p) (pre ++ ts.map (shT u.size)) = ((signE v p ts).1, (u.size : Int) + (signE v p ts).2.1, pre ++ (signE v p ts).2.2.map (shT u.size)) := by
  have hs : (u ++ v).size = u.size + v.size := ByteArray.size_append
  have hd : decide ((u.size : Int) + p + 2 ≤ ((u ++ v).size : Int)) = decide (p + 2 ≤ (v.size : Int)) := by
    by_cases h : p + 2 ≤ (v.size : Int)
    · rw [decide_eq_true h, decide_eq_true (by omega)]
    · rw [decide_eq_false h, decide_eq_false (by omega)]
  unfold signE
  rw [hd, Int.add_assoc, Int.add_assoc, cut_sh u v p (p + 2) h0 (by omega), cut_sh u v p (p + 1) h0 (by omega), bt_right u v p h0]
  split
  · simp [shT]
  · split
    · simp [shT]
    · rfl
theorem slash_sh (n : Nat) (pre ts : List Tok) (hp : slashB pre = true) : slashB (pre ++ ts.map (shT n)) = slashB ts := by
  rcases List.eq_nil_or_concat ts with rfl | ⟨l, t, rfl⟩
  · simpa [slashB] using hp
  · simp [slashB, shT, slashT]
theorem ts_sh (n : Nat) (R : Bool × Int × List UInt8) (kind p : Int) (pre ts : List Tok) : tsQ (R.1, (n : Int) + R.2.1, R.2.2) kind ((n : Int) + p) (pre ++ ts.map (shT n)) = pre ++ (tsQ R kind p ts).map (shT n) := by
  unfold tsQ
  simp only
  split
  · simp [shT]
  · rfl
theorem next_sh (u v : ByteArray) (p : Int) (h0 : 0 ≤ p) (h1 : p < (v.size : Int)) (pre ts : List Tok) (hp : slashB pre = true) :
    nextE (u ++ v) ((u.size : Int) + p) (pre ++ ts.map (shT u.size)) = ((nextE v p ts).1, (u.size : Int) + (nextE v p ts).2.1, pre ++ (nextE v p ts).2.2.map (shT u.size)) := by
  have hs : (u ++ v).size = u.size + v.size := ByteArray.size_append
  have hb := bt_right u v p h0
  have hb1 := bt_right u v (p + 1) (by omega)
  have hn := num_sh u v p h0
  have hw := word_sh u v p h0
  have hnl := numE_le (s := v) (p := p) (by omega) h0
  have hwl := wordE_le (s := v) (p := p) (by omega)
  have hk := kind_sh u v (wordE v p) (by omega)
  have hcn := cut_sh u v p (numE v p) h0 (by omega)
  have hcw := cut_sh u v p (wordE v p) h0 (by omega)
  have hr := run_sh (P := nnl) u v v.size (u ++ v).size p h0 (by omega) (by omega)
  have hsl := slash_sh u.size pre ts hp
  have hq : ∀ how fin, quoteL how (u ++ v) fin ((u.size : Int) + p) ((u ++ v).size + 1) ((u.size : Int) + (p + 1)) [] = ((quoteL how v fin p (v.size + 1) (p + 1) []).1, (u.size : Int) + (quoteL how v fin p (v.size + 1) (p + 1) []).2.1, (quoteL how v fin p (v.size + 1) (p + 1) []).2.2) :=
    fun how fin => quote_sh how u v fin p _ _ (p + 1) [] (by omega) (by omega) (by omega) (by omega)
  unfold nextE
  rw [Int.add_assoc, Int.add_assoc, hb, hb1, hn, hw, hk, hcn, hcw, hr, hsl, hq, hq, ts_sh, ts_sh]
  split
  · rfl
  split
  · rfl
  split
  · rfl
  split
  · simp [shT]
  split
  · simp [shT]
  split
  · simp [shT]
  split
  · rfl
  split
  · rfl
  exact sign_sh u v p h0 pre ts
theorem lexE_sh (u v : ByteArray) (pre : List Tok) (hp : slashB pre = true) : ∀ (k k' : Nat) (p : Int) (ts l : List Tok), 0 ≤ p → p ≤ (v.size : Int) → (v.size : Int) - p < k → (v.size : Int) - p < k' → lexE v k p ts = (l, 0, 0) → l ≠ [] →
    lexE (u ++ v) k' ((u.size : Int) + p) (pre ++ ts.map (shT u.size)) = (pre ++ l.map (shT u.size), 0, 0) := by
  have hs : (u ++ v).size = u.size + v.size := ByteArray.size_append
  intro k
  induction k with
  | zero => intro k' p ts l h0 h1 h2; omega
  | succ k ih =>
    intro k' p ts l h0 h1 h2 h3 he hl
    obtain ⟨e, rfl⟩ : ∃ e, k' = e + 1 := ⟨k' - 1, by omega⟩
    rw [lexE] at he ⊢
    by_cases hp1 : p < (v.size : Int)
    · rw [if_pos hp1] at he
      rw [if_pos (by omega), next_sh u v p h0 hp1 pre ts hp]
      by_cases her : (nextE v p ts).1 = 0
      · rw [if_pos her] at he
        have hok := next_ok h0 hp1 her
        rw [if_pos her]
        exact ih e _ _ _ (by omega) (by omega) (by omega) (by omega) he hl
      · rw [if_neg her] at he
        injection he with he _
        exact absurd he.symm hl
    · rw [if_neg hp1] at he
      obtain rfl : p = (v.size : Int) := by omega
      injection he with he _
      subst he
      rw [if_neg (by omega)]
      simp [shT]
theorem lexE_fin (s : ByteArray) (k : Nat) (ts : List Tok) : lexE s k s.size ts = (ts ++ [⟨0, ⟨#[]⟩, (s.size : Int)⟩], 0, 0) := by
  cases k with
  | zero => rfl
  | succ k => rw [lexE, if_neg (by omega)]
/-- two texts, a line's end between -/
theorem lexE_line (s t : ByteArray) (ht : 0 < t.size) (hc : bt t 0 = 10) : ∀ (k : Nat) (p : Int) (ts l : List Tok), 0 ≤ p → p ≤ (s.size : Int) → (s.size : Int) - p < k → lexE s k p ts = (l ++ [⟨0, ⟨#[]⟩, (s.size : Int)⟩], 0, 0) → ∀ k' : Nat, ((s ++ t).size : Int) - p < k' →
    ∃ k'' : Nat, (t.size : Int) < k'' ∧ lexE (s ++ t) k' p ts = lexE (s ++ t) k'' s.size l := by
  have hs : (s ++ t).size = s.size + t.size := ByteArray.size_append
  intro k
  induction k with
  | zero => intro p ts l _ _ h; omega
  | succ k ih =>
    intro p ts l hp0 hp1 hpk he k' hk'
    by_cases hp : p < (s.size : Int)
    · obtain ⟨e, rfl⟩ : ∃ e, k' = e + 1 := ⟨k' - 1, by omega⟩
      rw [lexE, if_pos hp] at he
      rw [lexE, if_pos (by omega)]
      by_cases her : (nextE s p ts).1 = 0
      · rw [if_pos her] at he
        have hok := next_ok hp0 hp her
        rw [next_loc s t ht (.inr hc) p hp0 hp ts her (fun _ => hc), if_pos her]
        exact ih _ _ _ (by omega) hok.2.1 (by omega) he e (by omega)
      · rw [if_neg her] at he
        injection he with he _
        simp at he
    · obtain rfl : p = (s.size : Int) := by omega
      have he2 : lexE s (k + 1) s.size ts = (ts ++ [⟨0, ⟨#[]⟩, (s.size : Int)⟩], 0, 0) := by rw [lexE, if_neg (by omega)]
      rw [he2] at he
      injection he with he _
      obtain rfl := List.append_cancel_right he
      exact ⟨k', by omega, rfl⟩
theorem lex_lines (a b : ByteArray) (la lb : List Tok) (h1 : lex_Lex.f a = some (la ++ [⟨0, ⟨#[]⟩, (a.size : Int)⟩], 0, 0)) (h2 : lex_Lex.f b = some (lb, 0, 0)) (hlb : lb ≠ []) (hs : a.size + b.size + 1 ≤ 4000) :
    lex_Lex.f ((a ++ (⟨#[10]⟩ : ByteArray)) ++ b) = some ((la ++ [⟨1, ⟨#[]⟩, (a.size : Int)⟩]) ++ lb.map (shT (a.size + 1)), 0, 0) := by
  have hz1 : (⟨#[10]⟩ : ByteArray).size = 1 := rfl
  have hsu : (a ++ (⟨#[10]⟩ : ByteArray)).size = a.size + 1 := by rw [ByteArray.size_append, hz1]
  have hst : ((⟨#[10]⟩ : ByteArray) ++ b).size = 1 + b.size := by rw [ByteArray.size_append, hz1]
  have hsw : ((a ++ (⟨#[10]⟩ : ByteArray)) ++ b).size = a.size + 1 + b.size := by rw [ByteArray.size_append, hsu]
  have hct : bt ((⟨#[10]⟩ : ByteArray) ++ b) 0 = 10 := by rw [bt_left _ _ _ (by omega) (by rw [hz1]; omega)]; rfl
  unfold lex_Lex.f at h1 h2 ⊢
  rw [if_neg (by omega)] at h1 h2
  rw [if_neg (by omega)]
  have h1 := Option.some.inj h1
  have h2 := Option.some.inj h2
  refine congrArg some ?_
  obtain ⟨k'', hk, he⟩ := lexE_line a ((⟨#[10]⟩ : ByteArray) ++ b) (by omega) hct (a.size + 1) 0 [] la (by omega) (by omega) (by omega) h1 (((a ++ (⟨#[10]⟩ : ByteArray)) ++ b).size + 1) (by rw [← ByteArray.append_assoc]; omega)
  rw [← ByteArray.append_assoc] at he
  rw [he]
  obtain ⟨e, rfl⟩ : ∃ e, k'' = e + 1 := ⟨k'' - 1, by omega⟩
  have hba : bt ((a ++ (⟨#[10]⟩ : ByteArray)) ++ b) a.size = 10 := by
    rw [ByteArray.append_assoc]
    have := bt_right a ((⟨#[10]⟩ : ByteArray) ++ b) 0 (by omega)
    rw [Int.add_zero, hct] at this
    exact this
  have hnx : nextE ((a ++ (⟨#[10]⟩ : ByteArray)) ++ b) a.size la = (0, (a.size : Int) + 1, la ++ [⟨1, ⟨#[]⟩, (a.size : Int)⟩]) := by simp [nextE, hba]
  rw [lexE, if_pos (by omega), hnx]
  simp only [if_true]
  have hsh := lexE_sh (a ++ (⟨#[10]⟩ : ByteArray)) b (la ++ [⟨1, ⟨#[]⟩, (a.size : Int)⟩]) (by simp [slashB, slashT]) (b.size + 1) e 0 [] lb (by omega) (by omega) (by omega) (by omega) h2 hlb
  rw [hsu] at hsh
  simpa using hsh
end Go.Proofs.YtpnkcihiliagcaaDoor.Pr
