/- Any text is the tokens that it is, or told where none begins: the pure statement. -/
import Derived.Test.YtpnkcihiliagcaaDoorPuLxR3
import Derived.Test.YtpnkcihiliagcaaDoorPuLxP
import Derived.Test.YtpnkcihiliagcaaDoorPr16
import Derived.Test.YtpnkcihiliagcaaDoorPr23
import Derived.Test.YtpnkcihiliagcaaDoorPr25
namespace Go.Proofs.YtpnkcihiliagcaaDoor.Pr
open Go Go.RowKit Go.Proofs.YtpnkcihiliagcaaDoorW.PrintWords Go.Proofs.YtpnkcihiliagcaaDoorW.PrintLast Go.Proofs.YtpnkcihiliagcaaDoorW.PrintMore
set_option linter.unusedVariables false
set_option linter.unusedSimpArgs false

theorem rdk_at (xs : List Tok) (i : Nat) (h : i < xs.length) : rd_T29 xs (i : Int) = xs[i] := by
  simp [rd_T29, List.getD, h]
theorem same_l0 (l : List Tok) (hl : l.length ≤ 100000) (d : Nat) : ∀ i : Nat, i + d = l.length → Ev (fun k => scribelaw11_same.l0 k l (l.map rt) ((l.map rt).length : Int) (i : Int)) 0 := by
  have hml : (l.map rt).length = l.length := List.length_map ..
  induction d with
  | zero =>
    intro i hi
    refine Ev.succ ?_
    simp only [scribelaw11_same.l0]
    exact Ev.neg (by rw [hml]; omega) (Ev.now _)
  | succ d ih =>
    intro i hi
    refine Ev.succ ?_
    simp only [scribelaw11_same.l0]
    have hw : wrap64 ((i : Int) + 1) = ((i + 1 : Nat) : Int) := by rw [w64 (by omega) (by omega)]; omega
    rw [rdk_at l i (by omega), rd_rt l i (by omega), hw]
    refine Ev.pos (by rw [hml]; omega) (Ev.pos (by omega) (Ev.pos (by omega) (Ev.pos (by rw [hml]; omega) (Ev.neg (by simp [rt]) (ih (i + 1) (by omega))))))
theorem same_ev (l : List Tok) (hl : l.length ≤ 100000) : Ev (fun k => scribelaw11_same.f k l (l.map rt)) 0 := by
  unfold scribelaw11_same.f
  exact Ev.pos (by rw [List.length_map]) (same_l0 l hl l.length 0 (Nat.zero_add _))
theorem mk_app2 (a b : List UInt8) : (⟨a.toArray⟩ : ByteArray) ++ (⟨b.toArray⟩ : ByteArray) = ⟨(a ++ b).toArray⟩ := by
  apply ByteArray.ext
  simp
/-- kinds that there are -/
def kOk (t : Tok) : Prop := 0 ≤ t.f0 ∧ t.f0 ≤ 10
theorem rprint_l0 (l : List Tok) (hk : ∀ t ∈ l, kOk t) (hp : (printL l).length ≤ 1000000) (d : Nat) : ∀ i : Nat, i + d = l.length →
    Ev (fun k => scriberef11_Print.l0 k ⟨(printL (l.take i)).toArray⟩ (l.map rt) ((l.map rt).length : Int) (i : Int)) ⟨(printL l).toArray⟩ := by
  have hml : (l.map rt).length = l.length := List.length_map ..
  have hll := printL_len l
  induction d with
  | zero =>
    intro i hi
    refine Ev.succ ?_
    simp only [scriberef11_Print.l0]
    rw [List.take_of_length_le (by omega)]
    exact Ev.neg (by rw [hml]; omega) (Ev.now _)
  | succ d ih =>
    intro i hi
    have hlt : i < l.length := by omega
    have hnext := ih (i + 1) (by omega)
    have hle := printL_take l (i + 1)
    rw [List.take_succ_eq_append_getElem hlt, printL_snoc] at hnext hle
    have hkk := hk l[i] (List.getElem_mem _)
    refine Ev.succ ?_
    simp only [scriberef11_Print.l0]
    have hw : wrap64 ((i : Int) + 1) = ((i + 1 : Nat) : Int) := by rw [w64 (by omega) (by omega)]; omega
    rw [rd_rt l i hlt, hw]
    generalize l[i] = t at hnext hle hkk
    obtain ⟨t0, t1, t2⟩ := t
    simp only [rt, kOk] at hnext hle hkk ⊢
    refine Ev.pos (by rw [hml]; omega) (Ev.pos (by omega) (Ev.pos (by rw [hml]; omega) ?_))
    simp only [List.length_append, List.length_cons, List.length_nil] at hle
    have ht1 : t1.data.toList.length = t1.size := by simp
    have hsz : (⟨(printL (l.take i)).toArray⟩ : ByteArray).size = (printL (l.take i)).length := by show (printL (l.take i)).toArray.size = _; simp
    have step : ∀ kb : ByteArray, kindB t0 = kb → (⟨(printL (l.take i) ++ ((kindB t0).data.toList ++ t1.data.toList ++ [32])).toArray⟩ : ByteArray) = ((⟨(printL (l.take i)).toArray⟩ : ByteArray) ++ kb) ++ (t1 ++ (⟨#[32]⟩ : ByteArray)) := by
      intro kb h
      rw [h]
      apply ByteArray.ext
      simp [ByteArray.data_append]
    have h11 : t0 = 0 ∨ t0 = 1 ∨ t0 = 2 ∨ t0 = 3 ∨ t0 = 4 ∨ t0 = 5 ∨ t0 = 6 ∨ t0 = 7 ∨ t0 = 8 ∨ t0 = 9 ∨ t0 = 10 := by omega
    have hz1 : (⟨#[32]⟩ : ByteArray).size = 1 := rfl
    generalize hX : (⟨(printL (l.take i)).toArray⟩ : ByteArray) = X at *
    rcases h11 with rfl | rfl | rfl | rfl | rfl | rfl | rfl | rfl | rfl | rfl | rfl
    · rw [step (⟨#[69, 78, 68]⟩ : ByteArray) rfl] at hnext
      have hz : (⟨#[69, 78, 68]⟩ : ByteArray).size = 3 := rfl
      exact Ev.pos rfl (Ev.pos (by omega) (Ev.pos (by omega) (Ev.pos (by rw [ByteArray.size_append, ByteArray.size_append, hz, hz1]; omega) hnext)))
    · rw [step (⟨#[78, 76]⟩ : ByteArray) rfl] at hnext
      have hz : (⟨#[78, 76]⟩ : ByteArray).size = 2 := rfl
      exact Ev.neg (by decide) (Ev.pos rfl (Ev.pos (by omega) (Ev.pos (by omega) (Ev.pos (by rw [ByteArray.size_append, ByteArray.size_append, hz, hz1]; omega) hnext))))
    · rw [step (⟨#[110, 117, 109, 58]⟩ : ByteArray) rfl] at hnext
      have hz : (⟨#[110, 117, 109, 58]⟩ : ByteArray).size = 4 := rfl
      exact Ev.neg (by decide) (Ev.neg (by decide) (Ev.pos rfl (Ev.pos (by omega) (Ev.pos (by omega) (Ev.pos (by rw [ByteArray.size_append, ByteArray.size_append, hz, hz1]; omega) hnext)))))
    · rw [step (⟨#[115, 116, 114, 58]⟩ : ByteArray) rfl] at hnext
      have hz : (⟨#[115, 116, 114, 58]⟩ : ByteArray).size = 4 := rfl
      exact Ev.neg (by decide) (Ev.neg (by decide) (Ev.neg (by decide) (Ev.pos rfl (Ev.pos (by omega) (Ev.pos (by omega) (Ev.pos (by rw [ByteArray.size_append, ByteArray.size_append, hz, hz1]; omega) hnext))))))
    · rw [step (⟨#[114, 101, 58]⟩ : ByteArray) rfl] at hnext
      have hz : (⟨#[114, 101, 58]⟩ : ByteArray).size = 3 := rfl
      exact Ev.neg (by decide) (Ev.neg (by decide) (Ev.neg (by decide) (Ev.neg (by decide) (Ev.pos rfl (Ev.pos (by omega) (Ev.pos (by omega) (Ev.pos (by rw [ByteArray.size_append, ByteArray.size_append, hz, hz1]; omega) hnext)))))))
    · rw [step (⟨#[110, 97, 109, 101, 58]⟩ : ByteArray) rfl] at hnext
      have hz : (⟨#[110, 97, 109, 101, 58]⟩ : ByteArray).size = 5 := rfl
      exact Ev.neg (by decide) (Ev.neg (by decide) (Ev.neg (by decide) (Ev.neg (by decide) (Ev.neg (by decide) (Ev.pos rfl (Ev.pos (by omega) (Ev.pos (by omega) (Ev.pos (by rw [ByteArray.size_append, ByteArray.size_append, hz, hz1]; omega) hnext))))))))
    · rw [step (⟨#[102, 117, 110, 99, 58]⟩ : ByteArray) rfl] at hnext
      have hz : (⟨#[102, 117, 110, 99, 58]⟩ : ByteArray).size = 5 := rfl
      exact Ev.neg (by decide) (Ev.neg (by decide) (Ev.neg (by decide) (Ev.neg (by decide) (Ev.neg (by decide) (Ev.neg (by decide) (Ev.pos rfl (Ev.pos (by omega) (Ev.pos (by omega) (Ev.pos (by rw [ByteArray.size_append, ByteArray.size_append, hz, hz1]; omega) hnext)))))))))
    · rw [step (⟨#[119, 111, 114, 100, 58]⟩ : ByteArray) rfl] at hnext
      have hz : (⟨#[119, 111, 114, 100, 58]⟩ : ByteArray).size = 5 := rfl
      exact Ev.neg (by decide) (Ev.neg (by decide) (Ev.neg (by decide) (Ev.neg (by decide) (Ev.neg (by decide) (Ev.neg (by decide) (Ev.neg (by decide) (Ev.pos rfl (Ev.pos (by omega) (Ev.pos (by omega) (Ev.pos (by rw [ByteArray.size_append, ByteArray.size_append, hz, hz1]; omega) hnext))))))))))
    · rw [step (⟨#[115, 105, 103, 110, 58]⟩ : ByteArray) rfl] at hnext
      have hz : (⟨#[115, 105, 103, 110, 58]⟩ : ByteArray).size = 5 := rfl
      exact Ev.neg (by decide) (Ev.neg (by decide) (Ev.neg (by decide) (Ev.neg (by decide) (Ev.neg (by decide) (Ev.neg (by decide) (Ev.neg (by decide) (Ev.neg (by decide) (Ev.pos rfl (Ev.pos (by omega) (Ev.pos (by omega) (Ev.pos (by rw [ByteArray.size_append, ByteArray.size_append, hz, hz1]; omega) hnext)))))))))))
    · rw [step (⟨#[98, 117, 105, 108, 116, 105, 110, 58]⟩ : ByteArray) rfl] at hnext
      have hz : (⟨#[98, 117, 105, 108, 116, 105, 110, 58]⟩ : ByteArray).size = 8 := rfl
      exact Ev.neg (by decide) (Ev.neg (by decide) (Ev.neg (by decide) (Ev.neg (by decide) (Ev.neg (by decide) (Ev.neg (by decide) (Ev.neg (by decide) (Ev.neg (by decide) (Ev.neg (by decide) (Ev.pos rfl (Ev.pos (by omega) (Ev.pos (by omega) (Ev.pos (by rw [ByteArray.size_append, ByteArray.size_append, hz, hz1]; omega) hnext))))))))))))
    · rw [step (⟨#[98, 97, 110, 110, 101, 100, 58]⟩ : ByteArray) rfl] at hnext
      have hz : (⟨#[98, 97, 110, 110, 101, 100, 58]⟩ : ByteArray).size = 7 := rfl
      exact Ev.neg (by decide) (Ev.neg (by decide) (Ev.neg (by decide) (Ev.neg (by decide) (Ev.neg (by decide) (Ev.neg (by decide) (Ev.neg (by decide) (Ev.neg (by decide) (Ev.neg (by decide) (Ev.neg (by decide) (Ev.pos rfl (Ev.pos (by omega) (Ev.pos (by omega) (Ev.pos (by rw [ByteArray.size_append, ByteArray.size_append, hz, hz1]; omega) hnext)))))))))))))
theorem rprint_ev (l : List Tok) (hk : ∀ t ∈ l, kOk t) (hp : (printL l).length ≤ 1000000) : Ev (fun k => scriberef11_Print.f k (l.map rt)) ⟨(printL l).toArray⟩ := by
  unfold scriberef11_Print.f
  have := rprint_l0 l hk hp l.length 0 (Nat.zero_add _)
  simpa [printL] using this

theorem quote_len (how : Int → ByteArray × Bool) (hsz : ∀ c, (how c).1.size ≤ 2) (s : ByteArray) (fin a : Int) (k : Nat) : ∀ (q : Int) (out : List UInt8), (quoteL how s fin a k q out).1 = true → ((quoteL how s fin a k q out).2.2.length : Int) ≤ out.length + ((quoteL how s fin a k q out).2.1 - q) := by
  induction k with
  | zero => intro q out h; simp [quoteL] at h
  | succ k ih =>
    intro q out
    unfold quoteL
    by_cases h1 : (s.size : Int) ≤ q ∨ bt s q = 10
    · rw [if_pos h1]; intro h; cases h
    · rw [if_neg h1]
      by_cases h2 : bt s q = fin
      · rw [if_pos h2]; intro _; simp only; omega
      · rw [if_neg h2]
        by_cases h3 : bt s q = 92
        · rw [if_pos h3]
          by_cases h4 : (how (bt s (q + 1))).2 = false ∨ (s.size : Int) ≤ q + 1
          · rw [if_pos h4]; intro h; cases h
          · rw [if_neg h4]
            intro h
            have := ih _ _ h
            have hl : (how (bt s (q + 1))).1.data.toList.length = (how (bt s (q + 1))).1.size := by simp
            have := hsz (bt s (q + 1))
            rw [List.length_append] at *
            omega
        · rw [if_neg h3]
          intro h
          have := ih _ _ h
          rw [List.length_append, List.length_singleton] at this
          omega
theorem cut_len (s : ByteArray) (a b : Int) (h0 : 0 ≤ a) (h : a ≤ b) : ((cut s a b).size : Int) ≤ b - a := by
  unfold cut
  rw [ByteArray.size_extract]
  omega
theorem kOk_mk {k : Int} (x : ByteArray) (p : Int) (h0 : 0 ≤ k) (h1 : k ≤ 10) : kOk ⟨k, x, p⟩ := ⟨h0, h1⟩
theorem next_tok2 (s : ByteArray) (p : Int) (ts : List Tok) (h0 : 0 ≤ p) (h1 : p < (s.size : Int)) (h : (nextE s p ts).1 = 0) : (nextE s p ts).2.2 = ts ∨ ∃ t : Tok, (nextE s p ts).2.2 = ts ++ [t] ∧ kOk t ∧ (t.f1.size : Int) ≤ (nextE s p ts).2.1 - p := by
  have hq : ∀ how fin (kind : Int), (∀ c, (how c).1.size ≤ 2) → 0 ≤ kind → kind ≤ 10 → tsQ (quoteL how s fin p (s.size + 1) (p + 1) []) kind p ts = ts ∨ ∃ t : Tok, tsQ (quoteL how s fin p (s.size + 1) (p + 1) []) kind p ts = ts ++ [t] ∧ kOk t ∧ (t.f1.size : Int) ≤ (quoteL how s fin p (s.size + 1) (p + 1) []).2.1 - p := by
    intro how fin kind hsz hk hk2
    unfold tsQ
    split
    · rename_i hR
      have := quote_len how hsz s fin p (s.size + 1) (p + 1) [] hR
      refine .inr ⟨_, rfl, ⟨hk, hk2⟩, ?_⟩
      show ((quoteL how s fin p (s.size + 1) (p + 1) []).2.2.toArray.size : Int) ≤ _
      rw [List.size_toArray]
      simp only [List.length_nil] at this
      omega
    · exact .inl rfl
  have hnl := numE_le (s := s) (p := p) (by omega) h0
  have hwl := wordE_le (s := s) (p := p) (by omega)
  have hcn := cut_len s p (numE s p) h0 hnl.1
  have hcw := cut_len s p (wordE s p) h0 hwl.1
  have hc1 := cut_len s p (p + 1) h0 (by omega)
  have hc2 := cut_len s p (p + 2) h0 (by omega)
  unfold nextE at h ⊢
  split at h
  · rw [if_pos ‹_›]; exact .inl rfl
  rw [if_neg ‹_›]
  split at h
  · rw [if_pos ‹_›]; exact .inl rfl
  rw [if_neg ‹_›]
  split at h
  · rw [if_pos ‹_›]; exact .inl rfl
  rw [if_neg ‹_›]
  split at h
  · rw [if_pos ‹_›]; exact .inr ⟨_, rfl, kOk_mk _ _ (by decide) (by decide), by show (0 : Int) ≤ p + 1 - p; omega⟩
  rw [if_neg ‹_›]
  split at h
  · rw [if_pos ‹_›]; exact .inr ⟨_, rfl, kOk_mk _ _ (by decide) (by decide), hcn⟩
  rw [if_neg ‹_›]
  split at h
  · rw [if_pos ‹_›]
    refine .inr ⟨_, rfl, ?_, hcw⟩
    show 0 ≤ wordK _ _ _ ∧ wordK _ _ _ ≤ 10
    unfold wordK
    repeat' split
    all_goals decide
  rw [if_neg ‹_›]
  split at h
  · rw [if_pos ‹_›]; exact hq howS 34 3 howS_size (by decide) (by decide)
  rw [if_neg ‹_›]
  split at h
  · rw [if_pos ‹_›]; exact hq howR 47 4 howR_size (by decide) (by decide)
  rw [if_neg ‹_›]
  unfold signE at h ⊢
  split at h
  · rw [if_pos ‹_›]; exact .inr ⟨_, rfl, kOk_mk _ _ (by decide) (by decide), hc2⟩
  rw [if_neg ‹_›]
  split at h
  · rw [if_pos ‹_›]; exact .inr ⟨_, rfl, kOk_mk _ _ (by decide) (by decide), hc1⟩
  · cases h
theorem kindB_len (k : Int) : (kindB k).data.toList.length ≤ 8 := by
  rcases kind_cases k with ⟨_, h⟩ | ⟨_, h⟩ | ⟨_, h⟩ | ⟨_, h⟩ | ⟨_, h⟩ | ⟨_, h⟩ | ⟨_, h⟩ | ⟨_, h⟩ | ⟨_, h⟩ | ⟨_, h⟩ | ⟨_, h⟩ <;> rw [h] <;> decide
theorem lexE_print (s : ByteArray) : ∀ (k : Nat) (p : Int) (ts : List Tok), 0 ≤ p → p ≤ (s.size : Int) → (s.size : Int) - p < k → (∀ t ∈ ts, kOk t) → ((printL ts).length : Int) ≤ 10 * p →
    (∀ t ∈ (lexE s k p ts).1, kOk t) ∧ ((printL (lexE s k p ts).1).length : Int) ≤ 10 * s.size + 20 := by
  intro k
  induction k with
  | zero => intro p ts h0 h1 h2; omega
  | succ k ih =>
    intro p ts h0 h1 h2 hk hp
    rw [lexE]
    by_cases hlt : p < (s.size : Int)
    · rw [if_pos hlt]
      by_cases he : (nextE s p ts).1 = 0
      · rw [if_pos he]
        have hok := next_ok h0 hlt he
        rcases next_tok2 s p ts h0 hlt he with h | ⟨t, h, hkt, hsz⟩
        · rw [h]
          exact ih _ ts (by omega) hok.2.1 (by omega) hk (by omega)
        · rw [h]
          refine ih _ _ (by omega) hok.2.1 (by omega) (fun x hx => ?_) ?_
          · rcases List.mem_append.1 hx with hx | hx
            · exact hk x hx
            · obtain rfl := List.mem_singleton.1 hx; exact hkt
          · rw [printL_snoc]
            have hkb := kindB_len t.f0
            have hl : t.f1.data.toList.length = t.f1.size := by simp
            simp only [List.length_append, List.length_cons, List.length_nil]
            omega
      · rw [if_neg he]
        exact ⟨fun t ht => (by cases ht), by show ((printL []).length : Int) ≤ _; simp [printL]; omega⟩
    · rw [if_neg hlt]
      refine ⟨fun x hx => ?_, ?_⟩
      · rcases List.mem_append.1 hx with hx | hx
        · exact hk x hx
        · obtain rfl := List.mem_singleton.1 hx; exact kOk_mk _ _ (by decide) (by decide)
      · show ((printL (ts ++ [⟨0, ⟨#[]⟩, p⟩])).length : Int) ≤ _
        rw [printL_snoc]
        have hkb := kindB_len 0
        simp only [List.length_append, List.length_cons, List.length_nil]
        have : (⟨#[]⟩ : ByteArray).data.toList.length = 0 := rfl
        omega
theorem LexReads_ev (a0 : ByteArray) (_w0 : a0.size ≤ 140737488351232) : Ev (fun k => scribelaw11_LexReads.f k a0) true := by
  unfold scribelaw11_LexReads.f
  obtain ⟨s, hs, hsz⟩ := cut_some a0 4010
  refine Ev.bindc hs ?_
  have fin : ∀ (l : List Tok) (at_ e : Int), l.length ≤ 100000 → (∀ t ∈ l, kOk t) → (printL l).length ≤ 1000000 → lex_Lex.f s = some (l, at_, e) → Ev (fun k => scriberef11_Lex.f k s) (l.map rt, at_, e) →
      Ev (fun k => ((lex_Lex.f s).bind fun bt347 => ((scriberef11_Lex.f k s).bind fun bt352 => ((scribelaw11_awake.f).bind fun t357 => (if t357 = true then (if bt347.2.2 = bt352.2.2 then (if bt347.2.1 = bt352.2.1 then ((scribelaw11_same.f k bt347.1 bt352.1).bind fun t358 => (if t358 = 0 then ((lex_Print.f bt347.1).bind fun t359 => ((scriberef11_Print.f k bt352.1).bind fun t360 => (some (t359.toList == t360.toList)))) else (some false))) else (some false)) else (some false)) else (some false)))))) true := by
    intro l at_ e hl hk hp h1 h2
    refine Ev.bindc h1 (Ev.bind' h2 (Ev.bindc awake11_ev (Ev.pos rfl (Ev.pos rfl (Ev.pos rfl (Ev.bind' (same_ev l hl) (Ev.pos rfl ?_)))))))
    refine Ev.bindc (a := ⟨(printL l).toArray⟩) (by unfold lex_Print.f; rw [if_pos hp]) (Ev.bind' (rprint_ev l hk hp) ?_)
    rw [beq_self_eq_true]
    exact Ev.now _
  by_cases hbig : s.size > 4000
  · refine fin [] 0 12 (by simp) (fun t ht => by cases ht) (by simp [printL]) (by unfold lex_Lex.f; rw [if_pos hbig]) ?_
    unfold scriberef11_Lex.f
    exact Ev.pos (by omega) (Ev.now _)
  · have hR := lex_rel s (by omega) (s.size + 1) 0 [] (by omega) (by omega) (by omega) (by simp)
    have hP := lexE_print s (s.size + 1) 0 [] (by omega) (by omega) (by omega) (fun t ht => by cases ht) (by simp [printL])
    have hll := printL_len (lexE s (s.size + 1) 0 []).1
    refine fin (lexE s (s.size + 1) 0 []).1 (lexE s (s.size + 1) 0 []).2.1 (lexE s (s.size + 1) 0 []).2.2 (by omega) hP.1 (by omega) (by unfold lex_Lex.f; rw [if_neg hbig]) ?_
    unfold scriberef11_Lex.f
    exact Ev.neg (by omega) hR
end Go.Proofs.YtpnkcihiliagcaaDoor.Pr
