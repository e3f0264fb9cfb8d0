/- lex: the program's tokens are the document's (a step; all of them); plain Lean. -/
import Derived.Test.YtpnkcihiliagcaaDoorPuLxR2
namespace Go.Proofs.YtpnkcihiliagcaaDoor.Pr
open Go Go.RowKit Go.Proofs.YtpnkcihiliagcaaDoorW.PrintWords Go.Proofs.YtpnkcihiliagcaaDoorW.PrintLast Go.Proofs.YtpnkcihiliagcaaDoorW.PrintMore
set_option linter.unusedVariables false
set_option linter.unusedSimpArgs false

/-- what the document's step tells, out of what the program's does -/
def oneR (p : Int) (ts : List Tok) (R : Int × Int × List Tok) (x : Int × ByteArray × Int × Int) : Prop :=
  (R.1 = 0 ∧ 0 ≤ x.2.2.2 ∧ R.2.1 = x.2.2.2 ∧ R.2.2 = ts ++ [⟨x.1, x.2.1, x.2.2.1⟩]) ∨ (R.1 = 9 ∧ x.2.2.2 < 0 ∧ (if x.2.2.2 < -1 then wrap64 (-2 - x.2.2.2) else p) = R.2.1)
theorem run_pos (s : ByteArray) (q : Int) (h0 : 0 ≤ q) : decide (runTo dgt s s.size q - q > 0) = dgt (bt s q) := by
  by_cases hq : q < (s.size : Int)
  · cases hd : dgt (bt s q) with
    | true =>
      have := run_lt hq h0 hd
      exact decide_eq_true (by omega)
    | false =>
      have e : runTo dgt s s.size q = q := by
        obtain ⟨n, hn⟩ : ∃ n, s.size = n + 1 := ⟨s.size - 1, by omega⟩
        rw [hn, runTo]
        rw [hd]
        split <;> rfl
      rw [e]
      exact decide_eq_false (by omega)
  · have e : runTo dgt s s.size q = q := by
      cases hn : s.size with
      | zero => rfl
      | succ n => rw [runTo, if_neg (by omega)]
    rw [e, bt_out s q (by omega)]
    exact decide_eq_false (by omega)
theorem quote_one (how : Int → ByteArray × Bool) (s : ByteArray) (fin p kind : Int) (rx : Bool) (ts : List Tok) (hs : s.size ≤ 4000) (h0 : 0 ≤ p) (h1 : p < (s.size : Int)) (hfin : fin = 34 ∨ fin = 47) (hh : (rx = true ∧ how = howR) ∨ (rx = false ∧ how = howS)) :
    ∃ x, Ev (fun k => (scriberef11_quoted.f k s p fin rx).bind fun b => some (kind, b.1, p, b.2)) x ∧ oneR p ts (errQ (quoteL how s fin p (s.size + 1) (p + 1) []).1, (quoteL how s fin p (s.size + 1) (p + 1) []).2.1, tsQ (quoteL how s fin p (s.size + 1) (p + 1) []) kind p ts) x := by
  obtain ⟨x, hx, hq⟩ := quoted_l0 how s fin p rx (by omega) hfin hh (s.size + 1) (p + 1) [] (by omega) (by omega) (by omega) (by simp; omega)
  refine ⟨(kind, x.1, p, x.2), ?_, ?_⟩
  · refine Ev.bind' (a := x) ?_ (Ev.now _)
    unfold scriberef11_quoted.f
    rw [w64 (by omega) (by omega)]
    exact hx
  · rcases hq with ⟨ha, hb⟩ | ⟨ha, hb, hc⟩
    · left
      have hlt := quote_lt how s fin p _ _ _ ha
      have hb2 : x.2 = (quoteL how s fin p (s.size + 1) (p + 1) []).2.1 := congrArg Prod.snd hb
      refine ⟨by rw [ha]; rfl, by show 0 ≤ x.2; omega, by show _ = x.2; rw [hb2], ?_⟩
      unfold tsQ
      rw [if_pos ha, hb]
    · right
      exact ⟨by rw [ha]; rfl, hb, hc⟩
theorem sign_one (s : ByteArray) (p : Int) (ts : List Tok) (hs : s.size ≤ 4000) (h0 : 0 ≤ p) (h1 : p < (s.size : Int)) (hc : bt s p ≠ 32) :
    ∃ x, Ev (fun k => scriberef11_one.j6 k s p false) x ∧ oneR p ts (signE s p ts) x := by
  obtain ⟨n, hn, hlt⟩ := bt_nat s p
  obtain ⟨m, hm, hlm⟩ := bt_nat s (p + 1)
  have hw1 : wrap64 (p + 1) = p + 1 := w64 (by omega) (by omega)
  have hw2 : wrap64 (p + 2) = p + 2 := w64 (by omega) (by omega)
  have hc1 : cut s p (p + 1) = ⟨#[n.toUInt8]⟩ := by
    apply ByteArray.ext
    have hb := bt_at s p (by omega)
    unfold cut
    rw [ByteArray.data_extract]
    apply Array.ext
    · have : s.data.size = s.size := rfl
      simp; omega
    · intro i hi1 hi2
      have hi : i = 0 := by simp at hi2; omega
      subst hi
      simp only [Array.getElem_extract, List.getElem_toArray, List.getElem_cons_zero, Nat.add_zero]
      apply UInt8.toNat_inj.1
      rw [hn] at hb
      have : s.data[p.toNat]'(by have : s.data.size = s.size := rfl; omega) = s[p.toNat]'(by omega) := rfl
      rw [this, Int.ofNat_inj.1 hb]
      simp [Nat.mod_eq_of_lt hlt]
  have last : ∃ x, Ev (fun k => scriberef11_one.j7 k s p false) x ∧ oneR p ts (if decide (0 ≤ oneI (bt s p)) = true then (0, p + 1, ts ++ [⟨8, cut s p (p + 1), p⟩]) else (9, p, ts)) x := by
    have ham := among_iff (cut s p (p + 1)) [123, 32, 125, 32, 40, 32, 41, 32, 91, 32, 93, 32, 59, 32, 44, 32, 43, 32, 45, 32, 42, 32, 47, 32, 37, 32, 33, 32, 62, 32, 60, 32, 124, 32, 63, 32, 58, 32, 126, 32, 36, 32, 61] onesW (by decide +kernel) (by decide)
    have he : Lib.containsS onesW (cut s p (p + 1)) = decide (0 ≤ oneI (bt s p)) := by rw [hc1, hn]; exact (ones_eq n hlt).symm
    rw [he] at ham
    unfold cut at ham
    cases hd : decide (0 ≤ oneI (bt s p)) with
    | true =>
      rw [hd] at ham
      refine ⟨(8, cut s p (p + 1), p, p + 1), Ev.succ ?_, .inl ⟨rfl, by show 0 ≤ p + 1; omega, rfl, rfl⟩⟩
      simp only [scriberef11_one.j7]
      rw [hw1]
      exact Ev.neg (by decide) (Ev.pos h0 (Ev.pos (by omega) (Ev.pos (by omega) (Ev.bind' ham (Ev.pos rfl (Ev.now _))))))
    | false =>
      rw [hd] at ham
      refine ⟨(0, ⟨#[]⟩, 0, -1), Ev.succ ?_, .inr ⟨rfl, by decide, by rw [if_neg (by decide)]; rfl⟩⟩
      simp only [scriberef11_one.j7]
      rw [hw1]
      exact Ev.neg (by decide) (Ev.pos h0 (Ev.pos (by omega) (Ev.pos (by omega) (Ev.bind' ham (Ev.neg (by decide) (Ev.now _))))))
  unfold signE
  by_cases h2 : p + 2 ≤ (s.size : Int)
  · have hct := cut_two s p h0 h2
    have ham := among_iff (cut s p (p + 2)) [43, 61, 32, 45, 61, 32, 42, 61, 32, 47, 61, 32, 37, 61, 32, 61, 61, 32, 60, 61, 32, 62, 61, 32, 33, 61, 32, 43, 43, 32, 45, 45, 32, 38, 38, 32, 124, 124, 32, 62, 62, 32, 33, 126] twosW (by decide +kernel) (by decide)
    have hne : (bt s p).toNat.toUInt8 ≠ 32 := by
      intro h
      apply hc
      have := bt_byte s p
      rw [h] at this
      exact this.symm
    have he : Lib.containsS twosW (cut s p (p + 2)) = twoB (cut s p (p + 2)) := by rw [hct]; exact (twos_eq _ _ hne).symm
    rw [he] at ham
    rw [decide_eq_true h2, Bool.true_and]
    unfold cut at ham
    cases htw : twoB (cut s p (p + 2)) with
    | true =>
      have htw' := htw
      unfold cut at htw'
      rw [htw'] at ham
      rw [if_pos rfl]
      refine ⟨(8, cut s p (p + 2), p, p + 2), Ev.succ ?_, .inl ⟨rfl, by show 0 ≤ p + 2; omega, rfl, rfl⟩⟩
      simp only [scriberef11_one.j6]
      rw [hw1, hw2]
      refine Ev.neg (by decide) (Ev.pos (by omega) (Ev.pos h0 (Ev.pos (by omega) (Ev.pos (by omega) (Ev.bind' ham (Ev.succ ?_))))))
      simp only [scriberef11_one.j7]
      rw [hw2]
      exact Ev.pos trivial (Ev.pos h0 (Ev.pos (by omega) (Ev.pos (by omega) (Ev.now _))))
    | false =>
      have htw' := htw
      unfold cut at htw'
      rw [htw'] at ham
      rw [if_neg (by decide)]
      obtain ⟨x, hx, hr⟩ := last
      refine ⟨x, Ev.succ ?_, hr⟩
      simp only [scriberef11_one.j6]
      rw [hw1, hw2]
      exact Ev.neg (by decide) (Ev.pos (by omega) (Ev.pos h0 (Ev.pos (by omega) (Ev.pos (by omega) (Ev.bind' ham hx)))))
  · rw [decide_eq_false h2, Bool.false_and, if_neg (by decide)]
    obtain ⟨x, hx, hr⟩ := last
    refine ⟨x, Ev.succ ?_, hr⟩
    simp only [scriberef11_one.j6]
    rw [hw1]
    exact Ev.neg (by decide) (Ev.neg (by omega) hx)
theorem words_apart : ∀ z ∈ wordsT, Lib.containsS builtinsT z = false ∧ Lib.containsS bannedT z = false := by decide +kernel
theorem builtins_apart : ∀ z ∈ builtinsT, Lib.containsS bannedT z = false := by decide +kernel
theorem word_kind (p q : Int) (w : ByteArray) (b : Bool) : Ev (fun k => scriberef11_one.j3 k p q w 5 b) ((if Lib.containsS wordsT w = true then 7 else if Lib.containsS builtinsT w = true then 9 else if Lib.containsS bannedT w = true then 10 else if b = true then 6 else 5), w, p, q) := by
  have a1 := among_iff w [66, 69, 71, 73, 78, 32, 69, 78, 68, 32, 102, 117, 110, 99, 116, 105, 111, 110, 32, 105, 102, 32, 101, 108, 115, 101, 32, 119, 104, 105, 108, 101, 32, 102, 111, 114, 32, 105, 110, 32, 98, 114, 101, 97, 107, 32, 99, 111, 110, 116, 105, 110, 117, 101, 32, 110, 101, 120, 116, 32, 101, 120, 105, 116, 32, 114, 101, 116, 117, 114, 110, 32, 100, 101, 108, 101, 116, 101, 32, 112, 114, 105, 110, 116, 32, 112, 114, 105, 110, 116, 102] wordsT (by decide +kernel) (by decide)
  have a2 := among_iff w [108, 101, 110, 103, 116, 104, 32, 115, 117, 98, 115, 116, 114, 32, 105, 110, 100, 101, 120, 32, 115, 112, 108, 105, 116, 32, 115, 117, 98, 32, 103, 115, 117, 98, 32, 109, 97, 116, 99, 104, 32, 116, 111, 108, 111, 119, 101, 114, 32, 116, 111, 117, 112, 112, 101, 114, 32, 105, 110, 116, 32, 115, 112, 114, 105, 110, 116, 102, 32, 114, 97, 110, 100, 32, 115, 114, 97, 110, 100] builtinsT (by decide +kernel) (by decide)
  have a3 := among_iff w [103, 101, 116, 108, 105, 110, 101, 32, 115, 121, 115, 116, 101, 109, 32, 99, 108, 111, 115, 101, 32, 102, 102, 108, 117, 115, 104, 32, 115, 121, 115, 116, 105, 109, 101, 32, 115, 116, 114, 102, 116, 105, 109, 101] bannedT (by decide +kernel) (by decide)
  have j5 : ∀ c : Int, Ev (fun k => scriberef11_one.j5 k p q w c) ((if Lib.containsS bannedT w = true then 10 else if Lib.containsS builtinsT w = true then 9 else c), w, p, q) := by
    intro c
    refine Ev.succ ?_
    simp only [scriberef11_one.j5]
    refine Ev.bind' a2 ?_
    cases h2 : Lib.containsS builtinsT w with
    | true =>
      refine Ev.pos rfl (Ev.bind' a3 ?_)
      cases h3 : Lib.containsS bannedT w with
      | true => exact Ev.pos rfl (Ev.now _)
      | false => exact Ev.neg (by decide) (Ev.now _)
    | false =>
      refine Ev.neg (by decide) (Ev.bind' a3 ?_)
      cases h3 : Lib.containsS bannedT w with
      | true => exact Ev.pos rfl (Ev.now _)
      | false => exact Ev.neg (by decide) (Ev.now _)
  have j4 : ∀ c : Int, Ev (fun k => scriberef11_one.j4 k p q w c) ((if Lib.containsS wordsT w = true then 7 else if Lib.containsS builtinsT w = true then 9 else if Lib.containsS bannedT w = true then 10 else c), w, p, q) := by
    intro c
    refine Ev.succ ?_
    simp only [scriberef11_one.j4]
    refine Ev.bind' a1 ?_
    cases h1 : Lib.containsS wordsT w with
    | true =>
      have ha := words_apart w ((Lib.containsS_iff _ _).1 h1)
      have := j5 7
      rw [ha.1, ha.2] at this
      exact Ev.pos rfl this
    | false =>
      refine Ev.neg (by decide) ?_
      have := j5 c
      cases h2 : Lib.containsS builtinsT w with
      | true =>
        have hb := builtins_apart w ((Lib.containsS_iff _ _).1 h2)
        rw [h2, hb] at this
        rw [hb]
        exact this
      | false =>
        rw [h2] at this
        exact this
  refine Ev.succ ?_
  simp only [scriberef11_one.j3]
  cases b with
  | true => exact Ev.pos rfl (j4 6)
  | false => exact Ev.neg (by decide) (j4 5)
theorem word_one (s : ByteArray) (p : Int) (hs : s.size ≤ 4000) (h0 : 0 ≤ p) : ∀ (d : Nat) (q : Int), p ≤ q → q ≤ (s.size : Int) → (s.size : Int) - q ≤ d →
    Ev (fun k => scriberef11_one.l0 k s p q) (wordK s (runTo ltd s d q) (cut s p (runTo ltd s d q)), cut s p (runTo ltd s d q), p, runTo ltd s d q) := by
  have stop : ∀ q : Int, p ≤ q → q ≤ (s.size : Int) → Ev (fun k => scriberef11_one.j2 k s p q) (wordK s q (cut s p q), cut s p q, p, q) := by
    intro q ha hb
    refine Ev.succ ?_
    simp only [scriberef11_one.j2]
    refine Ev.pos h0 (Ev.pos ha (Ev.pos hb ?_))
    by_cases hq : q < (s.size : Int)
    · refine Ev.pos hq (Ev.pos (by omega) ?_)
      have := word_kind p q (cut s p q) (bt s q == 40)
      unfold wordK
      simp only [beq_iff_eq] at this
      exact this
    · refine Ev.neg hq ?_
      have := word_kind p q (cut s p q) false
      unfold wordK
      rw [bt_out s q (by omega), if_neg (show ¬ (0 : Int) = 40 by decide)]
      simp only [Bool.false_eq_true, if_false] at this
      exact this
  intro d
  induction d with
  | zero =>
    intro q ha hb hc
    rw [runTo]
    refine Ev.succ ?_
    simp only [scriberef11_one.l0]
    exact Ev.neg (by omega) (stop q ha hb)
  | succ d ih =>
    intro q ha hb hc
    have hw : wrap64 (q + 1) = q + 1 := w64 (by omega) (by omega)
    refine Ev.succ ?_
    simp only [scriberef11_one.l0]
    rw [runTo, hw]
    by_cases hq : q < (s.size : Int)
    · rw [if_pos hq]
      refine Ev.pos hq (Ev.pos (by omega) (Ev.bindc (rletter_ev _) ?_))
      by_cases hl : ltr (bt s q) = true
      · rw [if_pos (by unfold ltd; rw [hl]; rfl)]
        exact Ev.pos hl (ih (q + 1) (by omega) (by omega) (by omega))
      · refine Ev.neg hl (Ev.bindc (rdigit_ev _) ?_)
        by_cases hd : dgt (bt s q) = true
        · rw [if_pos (by unfold ltd; rw [hd]; simp)]
          exact Ev.pos hd (ih (q + 1) (by omega) (by omega) (by omega))
        · rw [if_neg (by unfold ltd; simp [hl, hd])]
          exact Ev.neg hd (stop q ha hb)
    · rw [if_neg hq]
      exact Ev.neg hq (stop q ha hb)
theorem one_ev (s : ByteArray) (p : Int) (ts : List Tok) (hs : s.size ≤ 4000) (hts : ts.length ≤ 10000) (h0 : 0 ≤ p) (h1 : p < (s.size : Int)) (hb : (bt s p == 32 || (bt s p == 9 || bt s p == 13)) = false) (h35 : (bt s p == 35) = false) (h92 : (bt s p == 92 && bt s (p + 1) == 10) = false) :
    ∃ x, Ev (fun k => scriberef11_one.f k s p (ts.map rt)) x ∧ oneR p ts (nextE s p ts) x := by
  have hw1 : wrap64 (p + 1) = p + 1 := w64 (by omega) (by omega)
  have h32 : bt s p ≠ 32 := by intro h; rw [h] at hb; exact absurd hb (by decide)
  unfold nextE
  rw [hb, h35, h92]
  simp only [Bool.false_eq_true, if_false]
  unfold scriberef11_one.f
  by_cases h10 : bt s p = 10
  · rw [if_pos (by rw [h10]; rfl)]
    refine ⟨(1, ⟨#[]⟩, p, p + 1), Ev.pos h0 (Ev.pos h1 (Ev.pos h10 ?_)), .inl ⟨rfl, by show 0 ≤ p + 1; omega, rfl, rfl⟩⟩
    rw [hw1]
    exact Ev.now _
  rw [if_neg (by simpa using h10)]
  have num : ∃ x, Ev (fun k => scriberef11_one.j0 k s p (ts.map rt) (bt s p) true) x ∧ oneR p ts (0, numE s p, ts ++ [⟨2, cut s p (numE s p), p⟩]) x := by
    have hnl := numE_le (s := s) (p := p) (by omega) h0
    have hr := @runTo_le dgt s s.size p
    refine ⟨(2, cut s p (numE s p), p, numE s p), Ev.succ ?_, .inl ⟨rfl, by show 0 ≤ numE s p; omega, rfl, rfl⟩⟩
    simp only [scriberef11_one.j0]
    refine Ev.pos trivial (Ev.bind' (run_ev s p h0 (by omega) (by omega)) ?_)
    have hwr : wrap64 (p + (runTo dgt s s.size p - p)) = runTo dgt s s.size p := by rw [w64 (by omega) (by omega)]; omega
    rw [hwr]
    unfold numE at hnl ⊢
    by_cases hlt : runTo dgt s s.size p < (s.size : Int)
    · refine Ev.pos hlt (Ev.pos (by omega) ?_)
      by_cases h46 : bt s (runTo dgt s s.size p) = 46
      · rw [if_pos h46] at hnl ⊢
        have hr2 := @runTo_le dgt s s.size (runTo dgt s s.size p + 1)
        have hw2 : wrap64 (runTo dgt s s.size p + 1) = runTo dgt s s.size p + 1 := w64 (by omega) (by omega)
        rw [hw2]
        refine Ev.pos h46 (Ev.bind' (run_ev s _ (by omega) (by omega) (by omega)) ?_)
        have hw3 : wrap64 (runTo dgt s s.size p + wrap64 (1 + (runTo dgt s s.size (runTo dgt s s.size p + 1) - (runTo dgt s s.size p + 1)))) = runTo dgt s s.size (runTo dgt s s.size p + 1) := by
          rw [w64 (n := 1 + (runTo dgt s s.size (runTo dgt s s.size p + 1) - (runTo dgt s s.size p + 1))) (by omega) (by omega), w64 (by omega) (by omega)]; omega
        rw [hw3]
        exact Ev.pos h0 (Ev.pos (by omega) (Ev.pos (by omega) (Ev.now _)))
      · rw [if_neg h46] at hnl ⊢
        exact Ev.neg h46 (Ev.pos h0 (Ev.pos (by omega) (Ev.pos (by omega) (Ev.now _))))
    · have h46 : ¬ bt s (runTo dgt s s.size p) = 46 := by rw [bt_out s _ (by omega)]; decide
      rw [if_neg h46] at hnl ⊢
      exact Ev.neg hlt (Ev.pos h0 (Ev.pos (by omega) (Ev.pos (by omega) (Ev.now _))))
  have rest : ∃ x, Ev (fun k => scriberef11_one.j0 k s p (ts.map rt) (bt s p) false) x ∧ oneR p ts (if ltr (bt s p) = true then (0, wordE s p, ts ++ [⟨wordK s (wordE s p) (cut s p (wordE s p)), cut s p (wordE s p), p⟩])
      else if (bt s p == 34) = true then (errQ (quoteL howS s 34 p (s.size + 1) (p + 1) []).1, (quoteL howS s 34 p (s.size + 1) (p + 1) []).2.1, tsQ (quoteL howS s 34 p (s.size + 1) (p + 1) []) 3 p ts)
      else if (bt s p == 47 && slashB ts) = true then (errQ (quoteL howR s 47 p (s.size + 1) (p + 1) []).1, (quoteL howR s 47 p (s.size + 1) (p + 1) []).2.1, tsQ (quoteL howR s 47 p (s.size + 1) (p + 1) []) 4 p ts)
      else signE s p ts) x := by
    have into : ∀ {x : Int × ByteArray × Int × Int}, Ev (fun k => (scriberef11_letter.f (bt s p)).bind fun t316 => (if t316 = true then (scriberef11_one.l0 k s p p) else (if bt s p = 34 then ((scriberef11_quoted.f k s p 34 false).bind fun bt323 => (some (3, bt323.1, p, bt323.2))) else (if bt s p = 47 then ((scriberef11_pattern.f k (ts.map rt)).bind fun t325 => (scriberef11_one.j6 k s p t325)) else (scriberef11_one.j6 k s p false))))) x → Ev (fun k => scriberef11_one.j0 k s p (ts.map rt) (bt s p) false) x := by
      intro x h
      refine Ev.succ ?_
      simp only [scriberef11_one.j0]
      exact Ev.neg (by decide) h
    by_cases hl : ltr (bt s p) = true
    · rw [if_pos hl]
      have hwl := wordE_le (s := s) (p := p) (by omega)
      refine ⟨_, into (Ev.bindc (rletter_ev _) (Ev.pos hl (word_one s p hs h0 s.size p (Int.le_refl _) (by omega) (by omega)))), .inl ⟨rfl, ?_, rfl, rfl⟩⟩
      show 0 ≤ wordE s p
      omega
    · rw [if_neg hl]
      by_cases h34 : bt s p = 34
      · rw [if_pos (by rw [h34]; rfl)]
        obtain ⟨x, hx, hr⟩ := quote_one howS s 34 p 3 false ts hs h0 h1 (.inl rfl) (.inr ⟨rfl, rfl⟩)
        exact ⟨x, into (Ev.bindc (rletter_ev _) (Ev.neg hl (Ev.pos h34 hx))), hr⟩
      · rw [if_neg (by simpa using h34)]
        obtain ⟨y, hy, hsr⟩ := sign_one s p ts hs h0 h1 h32
        by_cases h47 : bt s p = 47
        · have hp := pattern_ev ts (by omega)
          cases hsl : slashB ts with
          | true =>
            rw [hsl] at hp
            rw [if_pos (by rw [h47]; rfl)]
            obtain ⟨x, hx, hr⟩ := quote_one howR s 47 p 4 true ts hs h0 h1 (.inr rfl) (.inl ⟨rfl, rfl⟩)
            refine ⟨x, into (Ev.bindc (rletter_ev _) (Ev.neg hl (Ev.neg h34 (Ev.pos h47 (Ev.bind' hp (Ev.succ ?_)))))), hr⟩
            simp only [scriberef11_one.j6]
            exact Ev.pos trivial hx
          | false =>
            rw [hsl] at hp
            rw [if_neg (by rw [Bool.and_false]; decide)]
            exact ⟨y, into (Ev.bindc (rletter_ev _) (Ev.neg hl (Ev.neg h34 (Ev.pos h47 (Ev.bind' hp hy))))), hsr⟩
        · have h47b : (bt s p == 47) = false := by simpa using h47
          rw [if_neg (by rw [h47b, Bool.false_and]; decide)]
          exact ⟨y, into (Ev.bindc (rletter_ev _) (Ev.neg hl (Ev.neg h34 (Ev.neg h47 hy)))), hsr⟩
  by_cases hd : dgt (bt s p) = true
  · rw [if_pos (by rw [hd]; rfl)]
    obtain ⟨x, hx, hr⟩ := num
    exact ⟨x, Ev.pos h0 (Ev.pos h1 (Ev.neg h10 (Ev.bindc (rdigit_ev _) (Ev.pos hd hx)))), hr⟩
  · have hdf : dgt (bt s p) = false := by simpa using hd
    by_cases h46 : bt s p = 46
    · have hru := run_ev s (p + 1) (by omega) (by omega) (by omega)
      have hpos := run_pos s (p + 1) (by omega)
      cases hd1 : dgt (bt s (p + 1)) with
      | true =>
        rw [hd1] at hpos
        rw [if_pos (by rw [h46]; rfl)]
        obtain ⟨x, hx, hr⟩ := num
        refine ⟨x, Ev.pos h0 (Ev.pos h1 (Ev.neg h10 (Ev.bindc (rdigit_ev _) (Ev.neg hd (Ev.pos h46 ?_))))), hr⟩
        rw [hw1]
        refine Ev.bind' hru ?_
        rw [hpos]
        exact hx
      | false =>
        rw [hd1] at hpos
        rw [if_neg (by rw [hdf, Bool.and_false]; decide)]
        obtain ⟨x, hx, hr⟩ := rest
        refine ⟨x, Ev.pos h0 (Ev.pos h1 (Ev.neg h10 (Ev.bindc (rdigit_ev _) (Ev.neg hd (Ev.pos h46 ?_))))), hr⟩
        rw [hw1]
        refine Ev.bind' hru ?_
        rw [hpos]
        exact hx
    · have h46b : (bt s p == 46) = false := by simpa using h46
      rw [if_neg (by rw [hdf, h46b]; simp)]
      obtain ⟨x, hx, hr⟩ := rest
      exact ⟨x, Ev.pos h0 (Ev.pos h1 (Ev.neg h10 (Ev.bindc (rdigit_ev _) (Ev.neg hd (Ev.neg h46 hx))))), hr⟩
theorem line_l1 (s : ByteArray) (l : List RTok) (hs : s.size ≤ 4000) {R : List RTok × Int × Int} : ∀ (d : Nat) (q : Int), 0 ≤ q → q ≤ (s.size : Int) → (s.size : Int) - q ≤ d → Ev (fun k => scriberef11_Lex.l0 k s l (runTo nnl s d q)) R → Ev (fun k => scriberef11_Lex.l1 k s l q) R := by
  intro d
  induction d with
  | zero =>
    intro q h0 h1 h2 hR
    rw [runTo] at hR
    refine Ev.succ ?_
    simp only [scriberef11_Lex.l1]
    exact Ev.neg (by omega) hR
  | succ d ih =>
    intro q h0 h1 h2 hR
    have hw : wrap64 (q + 1) = q + 1 := w64 (by omega) (by omega)
    rw [runTo] at hR
    refine Ev.succ ?_
    simp only [scriberef11_Lex.l1]
    rw [hw]
    by_cases hq : q < (s.size : Int)
    · rw [if_pos hq] at hR
      refine Ev.pos hq (Ev.pos h0 ?_)
      by_cases h10 : bt s q = 10
      · rw [if_neg (by rw [h10]; decide)] at hR
        exact Ev.pos h10 hR
      · rw [if_pos (by unfold nnl; simpa using h10)] at hR
        exact Ev.neg h10 (ih (q + 1) (by omega) (by omega) (by omega) hR)
    · rw [if_neg hq] at hR
      exact Ev.neg hq hR
theorem lex_rel (s : ByteArray) (hs : s.size ≤ 4000) : ∀ (k : Nat) (p : Int) (ts : List Tok), 0 ≤ p → p ≤ (s.size : Int) → (s.size : Int) - p < k → (ts.length : Int) ≤ p →
    Ev (fun n => scriberef11_Lex.l0 n s (ts.map rt) p) ((lexE s k p ts).1.map rt, (lexE s k p ts).2.1, (lexE s k p ts).2.2) := by
  intro k
  induction k with
  | zero => intro p ts h0 h1 h2; omega
  | succ k ih =>
    intro p ts h0 h1 h2 h3
    have hw1 : wrap64 (p + 1) = p + 1 := w64 (by omega) (by omega)
    have hw2 : wrap64 (p + 2) = p + 2 := w64 (by omega) (by omega)
    have hml : (ts.map rt).length = ts.length := List.length_map ..
    refine Ev.succ ?_
    simp only [scriberef11_Lex.l0]
    rw [lexE]
    by_cases hlt : p < (s.size : Int)
    · rw [if_pos hlt]
      refine Ev.pos hlt (Ev.pos h0 ?_)
      have j1 : ∀ b : Bool, (b = true → (bt s p == 32 || (bt s p == 9 || bt s p == 13)) = true) → (b = false → (bt s p == 32 || (bt s p == 9 || bt s p == 13)) = false) →
          Ev (fun n => scriberef11_Lex.j1 n s (ts.map rt) p (bt s p) b) (if (nextE s p ts).1 = 0 then ((lexE s k (nextE s p ts).2.1 (nextE s p ts).2.2).1.map rt, (lexE s k (nextE s p ts).2.1 (nextE s p ts).2.2).2.1, (lexE s k (nextE s p ts).2.1 (nextE s p ts).2.2).2.2) else ([], (nextE s p ts).2.1, (nextE s p ts).1)) := by
        intro b hb1 hb2
        have hok := fun he => next_ok (s := s) (p := p) (ts := ts) h0 hlt he
        refine Ev.succ ?_
        simp only [scriberef11_Lex.j1]
        cases b with
        | true =>
          have hn : nextE s p ts = (0, p + 1, ts) := by unfold nextE; rw [if_pos (hb1 rfl)]
          rw [hn, hw1]
          simp only [if_true]
          exact ih (p + 1) ts (by omega) (by omega) (by omega) (by omega)
        | false =>
          have hbl := hb2 rfl
          refine Ev.neg (by decide) ?_
          by_cases h35 : bt s p = 35
          · have hn : nextE s p ts = (0, runTo nnl s s.size p, ts) := by unfold nextE; rw [hbl, h35]; rfl
            have hrl := run_lt (P := nnl) hlt h0 (by rw [h35]; decide)
            rw [hn]
            simp only [if_true]
            exact Ev.pos h35 (line_l1 s _ hs s.size p h0 h1 (by omega) (ih _ ts (by omega) (by omega) (by omega) (by omega)))
          · have h35b : (bt s p == 35) = false := by simpa using h35
            refine Ev.neg h35 ?_
            have j3 : ∀ b : Bool, b = (bt s p == 92 && bt s (p + 1) == 10) → Ev (fun n => scriberef11_Lex.j3 n s (ts.map rt) p b) (if (nextE s p ts).1 = 0 then ((lexE s k (nextE s p ts).2.1 (nextE s p ts).2.2).1.map rt, (lexE s k (nextE s p ts).2.1 (nextE s p ts).2.2).2.1, (lexE s k (nextE s p ts).2.1 (nextE s p ts).2.2).2.2) else ([], (nextE s p ts).2.1, (nextE s p ts).1)) := by
              intro b hbe
              refine Ev.succ ?_
              simp only [scriberef11_Lex.j3]
              cases b with
              | true =>
                have hn : nextE s p ts = (0, p + 2, ts) := by unfold nextE; rw [hbl, h35b, ← hbe]; rfl
                have := hok (by rw [hn])
                rw [hn] at this
                rw [hn, hw2]
                simp only [if_true]
                exact (ih (p + 2) ts (by omega) (by have := this.2.1; simp only at this; omega) (by omega) (by omega))
              | false =>
                refine Ev.neg (by decide) ?_
                obtain ⟨x, hx, hr⟩ := one_ev s p ts hs (by omega) h0 hlt hbl h35b hbe.symm
                refine Ev.bind' hx ?_
                rcases hr with ⟨r1, r2, r3, r4⟩ | ⟨r1, r2, r3⟩
                · have hk := hok r1
                  rw [if_pos r1]
                  refine Ev.neg (by omega) (Ev.pos (by rw [hml]; omega) ?_)
                  have := ih (nextE s p ts).2.1 (nextE s p ts).2.2 (by omega) hk.2.1 (by omega) (by have := hk.2.2; omega)
                  rw [r4, List.map_append, r3] at this
                  rw [r3, r4]
                  exact this
                · rw [if_neg (show ¬ (nextE s p ts).1 = 0 by omega), r1]
                  by_cases hm : x.2.2.2 < -1
                  · rw [if_pos hm] at r3
                    rw [← r3]
                    exact Ev.pos r2 (Ev.pos hm (Ev.now _))
                  · rw [if_neg hm] at r3
                    rw [← r3]
                    exact Ev.pos r2 (Ev.neg hm (Ev.now _))
            by_cases h92 : bt s p = 92
            · refine Ev.pos h92 ?_
              rw [hw1]
              by_cases hp1 : p + 1 < (s.size : Int)
              · exact Ev.pos hp1 (Ev.pos (by omega) (j3 _ (by rw [h92]; rfl)))
              · exact Ev.neg hp1 (j3 _ (by rw [bt_out s (p + 1) (by omega)]; simp))
            · have h92b : (bt s p == 92) = false := by simpa using h92
              exact Ev.neg h92 (j3 _ (by rw [h92b]; rfl))
      have fin : ∀ R : List RTok × Int × Int, R = (if (nextE s p ts).1 = 0 then ((lexE s k (nextE s p ts).2.1 (nextE s p ts).2.2).1.map rt, (lexE s k (nextE s p ts).2.1 (nextE s p ts).2.2).2.1, (lexE s k (nextE s p ts).2.1 (nextE s p ts).2.2).2.2) else ([], (nextE s p ts).2.1, (nextE s p ts).1)) →
          Ev (fun n => if bt s p = 32 then scriberef11_Lex.j1 n s (ts.map rt) p (bt s p) true else if bt s p = 9 then scriberef11_Lex.j1 n s (ts.map rt) p (bt s p) true else scriberef11_Lex.j1 n s (ts.map rt) p (bt s p) (bt s p == 13)) R := by
        intro R hR
        rw [hR]
        by_cases h32 : bt s p = 32
        · exact Ev.pos h32 (j1 true (fun _ => by rw [h32]; rfl) (fun h => by cases h))
        · refine Ev.neg h32 ?_
          by_cases h9 : bt s p = 9
          · exact Ev.pos h9 (j1 true (fun _ => by rw [h9]; rfl) (fun h => by cases h))
          · have h32b : (bt s p == 32) = false := by simpa using h32
            have h9b : (bt s p == 9) = false := by simpa using h9
            exact Ev.neg h9 (j1 _ (fun h => by rw [h32b, h9b, h]; rfl) (fun h => by rw [h32b, h9b, h]; rfl))
      refine fin _ ?_
      split <;> simp
    · rw [if_neg hlt]
      obtain rfl : p = (s.size : Int) := by omega
      refine Ev.neg hlt (Ev.pos (by rw [hml]; omega) ?_)
      simp only [List.map_append, List.map_cons, List.map_nil]
      exact Ev.now _
end Go.Proofs.YtpnkcihiliagcaaDoor.Pr
