/- lex: the document's words: among, run, digit, letter, quoted; plain Lean. -/
import Derived.Test.YtpnkcihiliagcaaDoorPuLxN
import Derived.Test.YtpnkcihiliagcaaDoorPuF
import Derived.Test.YtpnkcihiliagcaaDoorPr17
import Derived.Test.YtpnkcihiliagcaaDoorPr18
import Derived.Test.YtpnkcihiliagcaaDoorPr19
namespace Go.Proofs.YtpnkcihiliagcaaDoor.Pr
open Go Go.RowKit Go.Proofs.YtpnkcihiliagcaaDoorW.PrintWords Go.Proofs.YtpnkcihiliagcaaDoorW.PrintLast Go.Proofs.YtpnkcihiliagcaaDoorW.PrintMore
set_option linter.unusedVariables false
set_option linter.unusedSimpArgs false

/-- the words between blanks, the first one begun -/
def wordsIn : List UInt8 → List UInt8 → List (List UInt8)
  | cur, [] => [cur]
  | cur, c :: r => if c = 32 then cur :: wordsIn [] r else wordsIn (cur ++ [c]) r
theorem among_l0 (w l : List UInt8) (hl : l.length ≤ 100000) (d : Nat) : ∀ i fr : Nat, i + d = l.length → fr ≤ i →
    Ev (fun k => scriberef11_among.l0 k (B w) (B l) (fr : Int) (i : Int)) ((wordsIn ((l.drop fr).take (i - fr)) (l.drop i)).contains w) := by
  have jj : ∀ (i fr : Nat) (rest : List (List UInt8)), i ≤ l.length → fr ≤ i → Ev (fun k => scriberef11_among.l0 k (B w) (B l) ((i + 1 : Nat) : Int) ((i + 1 : Nat) : Int)) (rest.contains w) →
      Ev (fun k => scriberef11_among.j1 k (B w) (B l) (fr : Int) (i : Int) true) ((((l.drop fr).take (i - fr)) :: rest).contains w) := by
    intro i fr rest hi hf hrest
    refine Ev.succ ?_
    simp only [scriberef11_among.j1]
    have hw : wrap64 ((i : Int) + 1) = ((i + 1 : Nat) : Int) := by rw [w64 (by omega) (by omega)]; omega
    rw [hw]
    refine Ev.pos trivial (Ev.pos (by omega) (Ev.pos (by omega) (Ev.pos (by rw [B_size]; omega) ?_)))
    rw [show ((fr : Int)).toNat = fr from rfl, show ((i : Int)).toNat = i from rfl, B_extract, B_toList, B_toList]
    by_cases h : (l.drop fr).take (i - fr) = w
    · refine Ev.pos h ?_
      rw [h]
      simp
      exact Ev.now _
    · refine Ev.neg h ?_
      have : ((((l.drop fr).take (i - fr)) :: rest).contains w) = rest.contains w := by
        rw [List.contains_cons]
        have : (w == (l.drop fr).take (i - fr)) = false := beq_eq_false_iff_ne.2 (fun e => h e.symm)
        rw [this]; rfl
      rw [this]
      exact hrest
  have fin : ∀ i : Nat, l.length < i → i ≤ l.length + 1 → Ev (fun k => scriberef11_among.l0 k (B w) (B l) (i : Int) (i : Int)) (([] : List (List UInt8)).contains w) := by
    intro i h1 h2
    refine Ev.succ ?_
    simp only [scriberef11_among.l0]
    refine Ev.neg (by rw [B_size]; omega) ?_
    exact Ev.now _
  induction d with
  | zero =>
    intro i fr hi hf
    have hd : l.drop i = [] := List.drop_eq_nil_of_le (by omega)
    rw [hd]
    simp only [wordsIn]
    refine Ev.succ ?_
    simp only [scriberef11_among.l0]
    exact Ev.pos (by rw [B_size]; omega) (Ev.pos (by rw [B_size]; omega) (jj i fr [] (by omega) hf (fin (i + 1) (by omega) (by omega))))
  | succ d ih =>
    intro i fr hi hf
    have hlt : i < l.length := by omega
    rw [List.drop_eq_getElem_cons hlt]
    simp only [wordsIn]
    refine Ev.succ ?_
    simp only [scriberef11_among.l0]
    rw [bt_B l i hlt]
    refine Ev.pos (by rw [B_size]; omega) (Ev.neg (by rw [B_size]; omega) (Ev.pos (by omega) (Ev.pos (by rw [B_size]; omega) ?_)))
    have hw : wrap64 ((i : Int) + 1) = ((i + 1 : Nat) : Int) := by rw [w64 (by omega) (by omega)]; omega
    by_cases h : l[i] = 32
    · rw [if_pos h, h, show (((32 : UInt8).toNat : Int) == 32) = true from rfl]
      refine jj i fr _ (by omega) hf ?_
      have := ih (i + 1) (i + 1) (by omega) (by omega)
      simpa using this
    · rw [if_neg h]
      have hne : (((l[i]).toNat : Int) == 32) = false := beq_eq_false_iff_ne.2 (fun e => h (UInt8.toNat_inj.1 (by have : l[i].toNat = 32 := Int.ofNat_inj.1 e; rw [this]; rfl)))
      rw [hne]
      refine Ev.succ ?_
      simp only [scriberef11_among.j1]
      rw [hw]
      refine Ev.neg (by decide) ?_
      have := ih (i + 1) fr (by omega) (by omega)
      have e : (l.drop fr).take (i + 1 - fr) = (l.drop fr).take (i - fr) ++ [l[i]] := by
        rw [show i + 1 - fr = (i - fr) + 1 by omega, List.take_succ_eq_append_getElem (by rw [List.length_drop]; omega), List.getElem_drop]
        congr 3
        omega
      rw [e] at this
      exact this
theorem among_ev (w l : List UInt8) (hl : l.length ≤ 100000) : Ev (fun k => scriberef11_among.f k (B w) (B l)) ((wordsIn [] l).contains w) := by
  have := among_l0 w l hl l.length 0 0 (Nat.zero_add _) (Nat.le_refl _)
  show Ev (fun k => scriberef11_among.l0 k (B w) (B l) 0 0) _
  simpa using this
theorem rdigit_ev (c : Int) : scriberef11_digit.f c = some (dgt c) := by
  unfold scriberef11_digit.f dgt
  by_cases h : c ≥ 48
  · rw [if_pos h]; congr 1; apply decide_eq_decide.2; omega
  · rw [if_neg h]; congr 1; exact (decide_eq_false (by omega)).symm
theorem rletter_ev (c : Int) : scriberef11_letter.f c = some (ltr c) := by
  unfold scriberef11_letter.f ltr
  have hb : (c == 95) = decide (c = 95) := rfl
  repeat' split
  all_goals (congr 1; first | (symm; apply decide_eq_true; omega) | (rw [hb]; apply decide_eq_decide.2; omega))
theorem run_l0 (s : ByteArray) (p : Int) (h0 : 0 ≤ p) (hs : s.size ≤ 100000) (hp : p ≤ 200000) : ∀ (d : Nat) (n : Int), 0 ≤ n → p + n ≤ 300000 → (s.size : Int) - (p + n) ≤ d → Ev (fun k => scriberef11_run.l0 k s p n) (runTo dgt s d (p + n) - p) := by
  intro d
  induction d with
  | zero =>
    intro n hn h1 h2
    have hw : wrap64 (p + n) = p + n := w64 (by omega) (by omega)
    refine Ev.succ ?_
    simp only [scriberef11_run.l0]
    rw [hw]
    refine Ev.neg (by omega) ?_
    rw [runTo, show p + n - p = n by omega]
    exact Ev.now _
  | succ d ih =>
    intro n hn h1 h2
    have hw : wrap64 (p + n) = p + n := w64 (by omega) (by omega)
    refine Ev.succ ?_
    simp only [scriberef11_run.l0]
    rw [hw, runTo]
    by_cases hlt : p + n < (s.size : Int)
    · rw [if_pos hlt]
      refine Ev.pos hlt (Ev.pos (by omega) (Ev.bindc (rdigit_ev _) ?_))
      by_cases hd : dgt (bt s (p + n)) = true
      · rw [if_pos hd]
        refine Ev.pos hd ?_
        have hw2 : wrap64 (n + 1) = n + 1 := w64 (by omega) (by omega)
        rw [hw2]
        have := ih (n + 1) (by omega) (by omega) (by omega)
        rw [← Int.add_assoc] at this
        exact this
      · rw [if_neg hd]
        refine Ev.neg hd ?_
        rw [show p + n - p = n by omega]
        exact Ev.now _
    · rw [if_neg hlt]
      refine Ev.neg hlt ?_
      rw [show p + n - p = n by omega]
      exact Ev.now _
theorem run_ev (s : ByteArray) (p : Int) (h0 : 0 ≤ p) (hs : s.size ≤ 100000) (hp : p ≤ 200000) : Ev (fun k => scriberef11_run.f k s p) (runTo dgt s s.size p - p) := by
  have := run_l0 s p h0 hs hp s.size 0 (by omega) (by omega) (by omega)
  rw [Int.add_zero] at this
  exact this
/-- what the document's quoted tells, out of what the program's does -/
def quR (p : Int) (R : Bool × Int × List UInt8) (x : ByteArray × Int) : Prop :=
  (R.1 = true ∧ x = (⟨R.2.2.toArray⟩, R.2.1)) ∨ (R.1 = false ∧ x.2 < 0 ∧ (if x.2 < -1 then wrap64 (-2 - x.2) else p) = R.2.1)
theorem strNums_map (l : List UInt8) : strOfNums (l.map fun c => (c.toNat : Int)) = ⟨l.toArray⟩ := by
  unfold strOfNums
  congr 1
  rw [List.map_map]
  congr 1
  conv => rhs; rw [← List.map_id l]
  apply List.map_congr_left
  intro c _
  simp
theorem quoted_l0 (how : Int → ByteArray × Bool) (s : ByteArray) (fin p : Int) (rx : Bool) (hs : s.size ≤ 100000) (hfin : fin = 34 ∨ fin = 47) (hh : (rx = true ∧ how = howR) ∨ (rx = false ∧ how = howS)) : ∀ (k : Nat) (q : Int) (out : List UInt8), 0 ≤ q → q ≤ (s.size : Int) → (s.size : Int) - q < k → (out.length : Int) ≤ 2 * q →
    ∃ x, Ev (fun k => scriberef11_quoted.l0 k s fin rx (out.map fun c => (c.toNat : Int)) q) x ∧ quR p (quoteL how s fin p k q out) x := by
  intro k
  induction k with
  | zero => intro q out h0 h1 h2; omega
  | succ k ih =>
    intro q out h0 h1 h2 ho
    have hw1 : wrap64 (q + 1) = q + 1 := w64 (by omega) (by omega)
    have hw2 : wrap64 (q + 1 + 1) = q + 2 := by rw [w64 (by omega) (by omega)]; omega
    have hwm : wrap64 (-2 - q) = -2 - q := w64 (by omega) (by omega)
    have hwn : wrap64 (-2 - (-2 - q)) = q := by rw [w64 (by omega) (by omega)]; omega
    have hml : (out.map fun c => (c.toNat : Int)).length = out.length := List.length_map ..
    unfold quoteL
    by_cases hlt : q < (s.size : Int)
    · by_cases h10 : bt s q = 10
      · rw [if_pos (.inr h10)]
        refine ⟨(⟨#[]⟩, -1), Ev.succ ?_, .inr ⟨rfl, by decide, by rw [if_neg (by decide)]⟩⟩
        simp only [scriberef11_quoted.l0]
        exact Ev.pos hlt (Ev.pos h0 (Ev.pos h10 (Ev.now _)))
      · rw [if_neg (by omega)]
        by_cases hf : bt s q = fin
        · rw [if_pos hf]
          refine ⟨(⟨out.toArray⟩, q + 1), Ev.succ ?_, .inl ⟨rfl, rfl⟩⟩
          simp only [scriberef11_quoted.l0]
          rw [hw1, strNums_map]
          exact Ev.pos hlt (Ev.pos h0 (Ev.neg h10 (Ev.pos hf (Ev.now _))))
        · rw [if_neg hf]
          by_cases h92 : bt s q = 92
          · rw [if_pos h92]
            by_cases hend : (s.size : Int) ≤ q + 1
            · rw [if_pos (.inr hend)]
              refine ⟨(⟨#[]⟩, -2 - q), Ev.succ ?_, .inr ⟨rfl, by show -2 - q < 0; omega, by show (if -2 - q < -1 then wrap64 (-2 - (-2 - q)) else p) = q; rw [if_pos (by omega), hwn]⟩⟩
              simp only [scriberef11_quoted.l0]
              rw [hw1, hwm]
              exact Ev.pos hlt (Ev.pos h0 (Ev.neg h10 (Ev.neg hf (Ev.pos h92 (Ev.pos (by omega) (Ev.now _))))))
            · have bad : (how (bt s (q + 1))).2 = false → ∃ x, Ev (fun k => scriberef11_quoted.l0 k s fin rx (out.map fun c => (c.toNat : Int)) q) x ∧ quR p (false, q, out) x := by
                intro hb
                refine ⟨(⟨#[]⟩, -2 - q), Ev.succ ?_, .inr ⟨rfl, by show -2 - q < 0; omega, by show (if -2 - q < -1 then wrap64 (-2 - (-2 - q)) else p) = q; rw [if_pos (by omega), hwn]⟩⟩
                simp only [scriberef11_quoted.l0]
                rw [hw1, hwm]
                refine Ev.pos hlt (Ev.pos h0 (Ev.neg h10 (Ev.neg hf (Ev.pos h92 (Ev.neg (by omega) (Ev.pos (by omega) (Ev.pos (by omega) ?_)))))))
                rcases hh with ⟨rfl, rfl⟩ | ⟨rfl, rfl⟩
                · have e : bt s (q + 1) = 10 := by
                    by_cases h : bt s (q + 1) = 10
                    · exact h
                    · exfalso
                      unfold howR lex_inRegex.f at hb
                      split at hb
                      · cases hb
                      · simp at hb; exact h hb
                  exact Ev.pos rfl (Ev.pos e (Ev.now _))
                · have hx : bt s (q + 1) ≠ 110 ∧ bt s (q + 1) ≠ 116 ∧ bt s (q + 1) ≠ 34 ∧ bt s (q + 1) ≠ 92 ∧ bt s (q + 1) ≠ 47 := by
                    unfold howS lex_inString.f at hb
                    refine ⟨?_, ?_, ?_, ?_, ?_⟩ <;> (intro h; rw [h] at hb; exact absurd hb (by decide))
                  exact Ev.neg (by decide) (Ev.neg hx.1 (Ev.neg hx.2.1 (Ev.neg hx.2.2.1 (Ev.neg hx.2.2.2.1 (Ev.neg hx.2.2.2.2 (Ev.now _))))))
              by_cases hb : (how (bt s (q + 1))).2 = false
              · rw [if_pos (.inl hb)]
                exact bad hb
              · rw [if_neg (by rintro (h | h); exact hb h; exact hend h)]
                have hsz : (how (bt s (q + 1))).1.size ≤ 2 := by rcases hh with ⟨_, rfl⟩ | ⟨_, rfl⟩; exact howR_size _; exact howS_size _
                have hdl : (how (bt s (q + 1))).1.data.toList.length = (how (bt s (q + 1))).1.size := by simp
                obtain ⟨x, hx, hq⟩ := ih (q + 2) (out ++ (how (bt s (q + 1))).1.data.toList) (by omega) (by omega) (by omega) (by rw [List.length_append]; omega)
                refine ⟨x, Ev.succ ?_, hq⟩
                simp only [scriberef11_quoted.l0]
                rw [hw1, hw2]
                refine Ev.pos hlt (Ev.pos h0 (Ev.neg h10 (Ev.neg hf (Ev.pos h92 (Ev.neg (by omega) (Ev.pos (by omega) (Ev.pos (by omega) ?_)))))))
                rw [List.map_append] at hx
                have hbt := bt_range s (q + 1)
                rcases hh with ⟨rfl, rfl⟩ | ⟨rfl, rfl⟩
                · have hn10 : bt s (q + 1) ≠ 10 := by
                    intro h
                    rw [h] at hb
                    exact hb rfl
                  refine Ev.pos rfl (Ev.neg hn10 ?_)
                  by_cases h47 : bt s (q + 1) = 47
                  · rw [h47] at hx ⊢
                    exact Ev.pos rfl (Ev.pos (by rw [hml]; omega) hx)
                  · refine Ev.neg h47 (Ev.pos (by rw [hml]; omega) ?_)
                    have e : (howR (bt s (q + 1))).1.data.toList.map (fun c => (c.toNat : Int)) = [92, bt s (q + 1)] := by
                      obtain ⟨n, hn, hl⟩ := bt_nat s (q + 1)
                      rw [hn] at h47 ⊢
                      unfold howR lex_inRegex.f
                      rw [if_neg h47]
                      simp [strOfNums]
                      omega
                    rw [e] at hx
                    simp only [Option.bind_some]
                    refine Ev.pos (by simp; omega) ?_
                    rw [List.append_assoc]
                    exact hx
                · refine Ev.neg (by decide) ?_
                  by_cases h1 : bt s (q + 1) = 110
                  · rw [h1] at hx ⊢
                    exact Ev.pos rfl (Ev.pos (by rw [hml]; omega) hx)
                  refine Ev.neg h1 ?_
                  by_cases h2 : bt s (q + 1) = 116
                  · rw [h2] at hx ⊢
                    exact Ev.pos rfl (Ev.pos (by rw [hml]; omega) hx)
                  refine Ev.neg h2 ?_
                  by_cases h3 : bt s (q + 1) = 34
                  · rw [h3] at hx ⊢
                    exact Ev.pos rfl (Ev.pos (by rw [hml]; omega) hx)
                  refine Ev.neg h3 ?_
                  by_cases h4 : bt s (q + 1) = 92
                  · rw [h4] at hx ⊢
                    exact Ev.pos rfl (Ev.pos (by rw [hml]; omega) hx)
                  refine Ev.neg h4 ?_
                  by_cases h5 : bt s (q + 1) = 47
                  · rw [h5] at hx ⊢
                    exact Ev.pos rfl (Ev.pos (by rw [hml]; omega) hx)
                  exfalso
                  apply hb
                  unfold howS lex_inString.f
                  rw [if_neg h1, if_neg h2, if_neg h3, if_neg h4, if_neg h5]
                  rfl
          · rw [if_neg h92]
            obtain ⟨x, hx, hq⟩ := ih (q + 1) (out ++ [(bt s q).toNat.toUInt8]) (by omega) (by omega) (by omega) (by rw [List.length_append, List.length_singleton]; omega)
            refine ⟨x, Ev.succ ?_, hq⟩
            simp only [scriberef11_quoted.l0]
            rw [hw1]
            rw [List.map_append, List.map_cons, List.map_nil, bt_byte] at hx
            exact Ev.pos hlt (Ev.pos h0 (Ev.neg h10 (Ev.neg hf (Ev.neg h92 (Ev.pos (by rw [hml]; omega) hx)))))
    · rw [if_pos (.inl (by omega))]
      refine ⟨(⟨#[]⟩, -1), Ev.succ ?_, .inr ⟨rfl, by decide, by rw [if_neg (by decide)]⟩⟩
      simp only [scriberef11_quoted.l0]
      exact Ev.neg hlt (Ev.now _)
end Go.Proofs.YtpnkcihiliagcaaDoor.Pr
