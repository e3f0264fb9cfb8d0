/- format: the laws' own part: parts, values, widths, places. -/
import Derived.Test.YtmobbclpfbkkkaaDoorPuFmtL
namespace Go.Proofs.YtmobbclpfbkkkaaDoor.Pr
open Go Go.RowKit Go.Proofs.YtmobbclpfbkkkaaDoorW.PrintWords Go.Proofs.YtmobbclpfbkkkaaDoorW.PrintLast Go.Proofs.YtmobbclpfbkkkaaDoorW.PrintMore

def okCl (x : Cl) : Prop := fitI (numS x.1 x.2.1 x.2.2) ∧ (strS x.1 x.2.1 x.2.2).length ≤ 400 ∧ x.2.2.length ≤ 400
theorem okCl_zero : okCl (0, 0, []) := by
  refine ⟨?_, ?_, ?_⟩
  · show fitI 0
    unfold fitI; omega
  · show ([] : List UInt8).length ≤ 400
    simp
  · show ([] : List UInt8).length ≤ 400
    simp
theorem okCl_head (args : List Cl) (h : ∀ x ∈ args, okCl x) : okCl (args.headD (0, 0, [])) := by
  cases args with
  | nil => exact okCl_zero
  | cons x r => exact h x (by simp)
def oneC (x : Sp) (a : Cl) : List UInt8 := oneS x a.1 a.2.1 a.2.2
theorem oneC_le (x : Sp) (a : Cl) (ha : okCl a) (hw : x.width ≤ 1000) (hp : x.prec ≤ 1000) : (oneC x a).length ≤ 1030 := oneS_le x _ _ _ hw hp ha.1 (Nat.le_trans ha.2.1 (by omega))

/-- one conversion that ends with s at the latest, and whatever follows -/
theorem conv_s (L : List UInt8) (h : L.getLast? = some 115) (hn : ∀ c ∈ L, c.toNat ≠ 37) (m : List UInt8) (args : List Cl) (out : List UInt8) (hx : okCl (args.headD (0, 0, []))) (ho : out.length ≤ 2900) :
    printS (37 :: (L ++ m)) args out = if (specS L).2.1 ≠ 0 then ([], (specS L).2.1) else printS m args.tail (out ++ (oneC (specS L).1 (args.headD (0, 0, [])) ++ (specS L).2.2)) := by
  obtain ⟨h1, h2, h3⟩ := specS_more L h
  rw [printS_conv, h1 m]
  simp only
  by_cases he : (specS L).2.1 ≠ 0
  · rw [if_pos he, if_pos he]
  · rw [if_neg he, if_neg he]
    have he' : (specS L).2.1 = 0 := by omega
    have hv : ¬ (specS L).1.verb = 37 := fun e => hn _ (h3 he') (by rw [e]; rfl)
    obtain ⟨hw, hp⟩ := specS_bounds L he'
    have hlen := oneC_le (specS L).1 _ hx hw hp
    unfold oneC at hlen ⊢
    rw [if_neg hv, if_neg (by rw [List.length_append]; omega), printS_run _ _ _ _ (fun c hc => hn c (h2 c hc)), List.append_assoc]
theorem spec_rest_le (L : List UInt8) : (specS L).2.2.length ≤ L.length := specS_le L

theorem parts_law (A B : List UInt8) (x y : Cl) (hA : A.getLast? = some 115) (hB : B.getLast? = some 115) (nA : ∀ c ∈ A, c.toNat ≠ 37) (nB : ∀ c ∈ B, c.toNat ≠ 37)
    (lA : A.length ≤ 100) (lB : B.length ≤ 100) (hx : okCl x) (hy : okCl y) (s t : List UInt8) (h1 : printS (37 :: A) [x] [] = (s, 0)) (h2 : printS (37 :: B) [y] [] = (t, 0)) :
    printS ((37 :: A) ++ (37 :: B)) [x, y] [] = (s ++ t, 0) := by
  have e1 := conv_s A hA nA [] [x] [] hx (by simp)
  have e2 := conv_s B hB nB [] [y] [] hy (by simp)
  rw [List.append_nil] at e1 e2
  rw [h1] at e1
  rw [h2] at e2
  have r1 := spec_rest_le A
  have r2 := spec_rest_le B
  by_cases ha : (specS A).2.1 ≠ 0
  · rw [if_pos ha] at e1; injection e1 with _ e; exact absurd e.symm ha
  · rw [if_neg ha] at e1
    by_cases hb : (specS B).2.1 ≠ 0
    · rw [if_pos hb] at e2; injection e2 with _ e; exact absurd e.symm hb
    · rw [if_neg hb] at e2
      obtain ⟨wa, pa⟩ := specS_bounds A (by omega)
      obtain ⟨wb, pb⟩ := specS_bounds B (by omega)
      have la := oneC_le (specS A).1 x hx wa pa
      have lb := oneC_le (specS B).1 y hy wb pb
      simp only [List.headD_cons, List.tail_cons, List.nil_append] at e1 e2
      rw [printS_nil, if_neg (by rw [List.length_append]; omega)] at e1 e2
      injection e1 with e1 _
      injection e2 with e2 _
      subst e1
      subst e2
      have g1 := conv_s A hA nA (37 :: B) [x, y] [] hx (by simp)
      rw [if_neg ha] at g1
      simp only [List.headD_cons, List.tail_cons, List.nil_append] at g1
      have g2 := conv_s B hB nB [] [y] (oneC (specS A).1 x ++ (specS A).2.2) hy (by rw [List.length_append]; omega)
      rw [if_neg hb, List.append_nil] at g2
      simp only [List.headD_cons, List.tail_cons] at g2
      rw [List.cons_append, g1, g2, printS_nil, if_neg (by simp only [List.length_append]; omega)]

/-- values by %s -/
def valsS : Nat → List Cl → List UInt8
  | 0, _ => []
  | n + 1, args => [60] ++ strS (args.headD (0, 0, [])).1 (args.headD (0, 0, [])).2.1 (args.headD (0, 0, [])).2.2 ++ [62] ++ valsS n args.tail
def valsF : Nat → List UInt8
  | 0 => []
  | n + 1 => [60, 37, 115, 62] ++ valsF n
theorem oneC_s (a : Cl) : oneC ⟨FS.none, 0, -1, 115⟩ a = strS a.1 a.2.1 a.2.2 := by
  unfold oneC oneS
  simp only
  rw [if_neg (by decide), if_neg (by decide), if_neg (by decide), if_neg (by decide)]
  unfold padS FS.none
  simp
theorem spec_s : specS [115] = (⟨FS.none, 0, -1, 115⟩, 0, []) := rfl
theorem vals_law (n : Nat) : ∀ (args : List Cl) (out : List UInt8), (∀ x ∈ args, okCl x) → out.length + 402 * n ≤ 3300 → printS (valsF n) args out = (out ++ valsS n args, 0) := by
  induction n with
  | zero =>
    intro args out _ ho
    rw [valsF, printS_nil, if_neg (by omega), valsS, List.append_nil]
  | succ n ih =>
    intro args out h ho
    have hx := okCl_head args h
    have hs := hx.2.1
    rw [valsF, valsS, List.cons_append, printS_cons _ _ _ _ (by decide), List.cons_append, List.cons_append]
    have := conv_s [115] (by rfl) (by decide) ([62] ++ valsF n) args (out ++ [60]) hx (by rw [List.length_append, List.length_singleton]; omega)
    rw [spec_s] at this
    simp only [ne_eq, not_true, if_false, List.append_nil, oneC_s] at this
    rw [List.singleton_append, List.singleton_append] at this
    change printS (37 :: 115 :: 62 :: valsF n) args (out ++ [60]) = _
    rw [this, printS_cons _ _ _ _ (by decide), ih args.tail _ (fun x hx' => h x (List.mem_of_mem_tail hx')) (by simp only [List.length_append, List.length_singleton]; omega)]
    simp only [List.append_assoc]

/-! widths -/
def verbs5 (c : UInt8) : Bool := [100, 105, 120, 102, 115, 99].contains c
theorem verbs5_all (c : UInt8) (h : verbs5 c = true) : c = 100 ∨ c = 105 ∨ c = 120 ∨ c = 102 ∨ c = 115 ∨ c = 99 := by
  unfold verbs5 at h
  simpa using h
theorem spec_verb (f : FS) (w : Nat) (c : UInt8) (h : verbs5 c = true) (l d : List UInt8) (hl : flagsS (l ++ (d ++ [c])) FS.none = (f, d ++ [c])) (hd : numD (d ++ [c]) 0 = (w, [c])) (hw : w ≤ 1000) :
    specS (l ++ (d ++ [c])) = (⟨f, w, -1, c⟩, 0, []) := by
  have hp : precS [c] = (-1, [c]) := by
    rw [precS, if_neg]
    rcases verbs5_all c h with rfl | rfl | rfl | rfl | rfl | rfl <;> decide
  have hv : verbOk c = true := by
    rcases verbs5_all c h with rfl | rfl | rfl | rfl | rfl | rfl <;> decide
  unfold specS specT
  simp only [hl, hd, hp]
  rw [if_neg (by omega), verbS, if_pos hv]
theorem numD_verb (c : UInt8) (h : verbs5 c = true) (n : Nat) : numD [c] n = (n, [c]) := by
  rw [numD, if_neg]
  rcases verbs5_all c h with rfl | rfl | rfl | rfl | rfl | rfl <;> decide
theorem flags_stop (c : UInt8) (r : List UInt8) (x : FS) (h : c.toNat ≠ 45 ∧ c.toNat ≠ 48 ∧ c.toNat ≠ 43 ∧ c.toNat ≠ 32) : flagsS (c :: r) x = (x, c :: r) := by
  rw [flagsS, if_neg h.1, if_neg h.2.1, if_neg h.2.2.1, if_neg h.2.2.2]
theorem dig_num (d : Nat) (h : d < 10) : isDig (UInt8.ofNat (48 + d)) = true ∧ (UInt8.ofNat (48 + d)).toNat = 48 + d := by
  have e : (UInt8.ofNat (48 + d)).toNat = 48 + d := by rw [UInt8.toNat_ofNat']; omega
  refine ⟨?_, e⟩
  unfold isDig
  rw [e]
  simp; omega
theorem numD_dig (d : Nat) (h : d < 10) (r : List UInt8) (n : Nat) (hn : 10 * n + d ≤ 1001) : numD (UInt8.ofNat (48 + d) :: r) n = numD r (10 * n + d) := by
  obtain ⟨h1, h2⟩ := dig_num d h
  rw [numD, if_pos h1, h2, show 48 + d - 48 = d by omega, Nat.min_eq_left hn]
/-- a width's digits: read back, and no flag -/
theorem width_digits (w : Nat) (hw : w ≤ 100) (h0 : 0 < w) (c : UInt8) (h : verbs5 c = true) :
    numD (Lib.decDigits w ++ [c]) 0 = (w, [c]) ∧ ∀ x, flagsS (Lib.decDigits w ++ [c]) x = (x, Lib.decDigits w ++ [c]) := by
  have ns : ∀ d, 0 < d → d < 10 → ∀ (r : List UInt8) x, flagsS (UInt8.ofNat (48 + d) :: r) x = (x, UInt8.ofNat (48 + d) :: r) := by
    intro d h0 h1 r x
    refine flags_stop _ _ _ ?_
    rw [(dig_num d h1).2]
    omega
  by_cases h10 : w < 10
  · rw [dec_one w h10]
    refine ⟨?_, fun x => ns w h0 h10 _ x⟩
    rw [List.singleton_append, numD_dig w h10 _ _ (by omega), numD_verb c h]
    simp
  · by_cases h100 : w < 100
    · rw [dec_snoc w (by omega), dec_one (w / 10) (by omega)]
      refine ⟨?_, fun x => ns (w / 10) (by omega) (by omega) _ x⟩
      simp only [List.cons_append, List.nil_append]
      rw [numD_dig _ (by omega) _ _ (by omega), numD_dig _ (by omega) _ _ (by omega), numD_verb c h]
      congr 1
      omega
    · obtain rfl : w = 100 := by omega
      rw [dec_snoc 100 (by omega), dec_snoc (100 / 10) (by omega), dec_one _ (by omega)]
      refine ⟨?_, fun x => ns _ (by omega) (by omega) _ x⟩
      simp only [List.cons_append, List.nil_append]
      rw [numD_dig _ (by omega) _ _ (by omega), numD_dig _ (by omega) _ _ (by omega), numD_dig _ (by omega) _ _ (by omega), numD_verb c h]
def flagL (left zero : Bool) : List UInt8 := (if left = true then [45] else []) ++ (if zero = true then [48] else [])
theorem flagL_flags (left zero : Bool) (m : List UInt8) (h : ∀ x, flagsS m x = (x, m)) : flagsS (flagL left zero ++ m) FS.none = (⟨left, zero, false, false⟩, m) := by
  cases left <;> cases zero <;> simp [flagL, flagsS, h, FS.none]
def widL (w : Nat) : List UInt8 := if w = 0 then [] else Lib.decDigits w
theorem wide_spec (left zero : Bool) (w : Nat) (hw : w ≤ 100) (c : UInt8) (h : verbs5 c = true) :
    specS (flagL left zero ++ (widL w ++ [c])) = (⟨⟨left, zero, false, false⟩, w, -1, c⟩, 0, []) := by
  unfold widL
  by_cases h0 : w = 0
  · subst h0
    rw [if_pos rfl]
    refine spec_verb _ 0 c h _ [] (flagL_flags left zero _ (fun x => ?_)) (numD_verb c h 0) (by omega)
    refine flags_stop _ _ _ ?_
    rcases verbs5_all c h with rfl | rfl | rfl | rfl | rfl | rfl <;> decide
  · rw [if_neg h0]
    obtain ⟨h1, h2⟩ := width_digits w hw (by omega) c h
    exact spec_verb _ w c h _ _ (flagL_flags left zero _ h2) h1 (by omega)
theorem oneC_wide (left zero : Bool) (w : Nat) (c : UInt8) (a : Cl) :
    (oneC ⟨⟨left, zero, false, false⟩, w, -1, c⟩ a).length = max w (oneC ⟨FS.none, 0, -1, c⟩ a).length := by
  unfold oneC oneS wholeS placesS
  simp only
  have hs : ∀ b, signS ⟨left, zero, false, false⟩ b = signS FS.none b := by intro b; cases b <;> rfl
  simp only [hs]
  repeat' split
  all_goals (simp only [padS_length]; omega)
theorem conv_verb (l : List UInt8) (sp : Sp) (hs : specS l = (sp, 0, [])) (hv : verbs5 sp.verb = true) (hw : sp.width ≤ 1000) (hp : sp.prec ≤ 1000) (a : Cl) (ha : okCl a) :
    printS (37 :: l) [a] [] = (oneC sp a, 0) := by
  have hlen := oneC_le sp a ha hw hp
  unfold oneC at hlen ⊢
  rw [printS_conv, hs]
  refine (if_neg (by simp)).trans ?_
  refine (if_neg (show ¬ sp.verb = 37 by rcases verbs5_all _ hv with h | h | h | h | h | h <;> (rw [h]; decide))).trans ?_
  refine (if_neg (show ¬ 4000 < (([] : List UInt8) ++ oneS sp a.1 a.2.1 a.2.2).length by rw [List.nil_append]; omega)).trans ?_
  show printS [] [] (oneS sp a.1 a.2.1 a.2.2) = _
  rw [printS_nil, if_neg (by omega)]

/-! places -/
theorem places_spec (n : Nat) (h1 : 1 ≤ n) (h6 : n ≤ 6) : specS ([46] ++ ([UInt8.ofNat (48 + n)] ++ [102])) = (⟨FS.none, 0, (n : Int), 102⟩, 0, []) := by
  obtain rfl | rfl | rfl | rfl | rfl | rfl : n = 1 ∨ n = 2 ∨ n = 3 ∨ n = 4 ∨ n = 5 ∨ n = 6 := by omega
  all_goals rfl
theorem spec_f : specS [102] = (⟨FS.none, 0, -1, 102⟩, 0, []) := rfl
theorem oneC_f (p : Int) (a : Cl) : oneC ⟨FS.none, 0, p, 102⟩ a = placesS ⟨FS.none, 0, p, 102⟩ (numS a.1 a.2.1 a.2.2) := rfl
theorem padS_none (sign body : List UInt8) (z : Bool) : padS FS.none 0 sign body z = sign ++ body := by
  unfold padS FS.none
  simp
theorem places_law (n : Nat) (h1 : 1 ≤ n) (h6 : n ≤ 6) (a : Cl) :
    (oneC ⟨FS.none, 0, -1, 102⟩ a).length = (oneC ⟨FS.none, 0, (n : Int), 102⟩ a).length + 6 - n ∧
    (oneC ⟨FS.none, 0, -1, 102⟩ a).take (oneC ⟨FS.none, 0, (n : Int), 102⟩ a).length = oneC ⟨FS.none, 0, (n : Int), 102⟩ a := by
  rw [oneC_f, oneC_f]
  unfold placesS
  simp only [padS_none]
  have x1 : (if (-1 : Int) < 0 then 6 else (-1 : Int).toNat) = 6 := rfl
  have x2 : (if (n : Int) < 0 then 6 else (n : Int).toNat) = n := by rw [if_neg (by omega), Int.toNat_natCast]
  simp only [x1, x2]
  rw [if_neg (show ¬ (6 : Nat) = 0 by omega), if_neg (show ¬ n = 0 by omega)]
  generalize hv : numS a.1 a.2.1 a.2.2 = v
  have hd := dec_seven (v.natAbs % 1000000) (Nat.mod_lt _ (by omega))
  generalize hD : (Lib.decDigits (1000000 + v.natAbs % 1000000)).drop 1 = D
  have hDl : D.length = 6 := by rw [← hD, List.length_drop, hd]
  generalize Lib.decDigits (v.natAbs / 1000000) = W
  generalize signS FS.none (decide (v < 0)) = S
  have e6 : (D ++ List.replicate (6 - 6) (48 : UInt8)).take 6 = D := by
    rw [show 6 - 6 = 0 from rfl, List.replicate_zero, List.append_nil, List.take_of_length_le (by omega)]
  have en : (D ++ List.replicate (n - 6) (48 : UInt8)).take n = D.take n := by
    rw [show n - 6 = 0 by omega, List.replicate_zero, List.append_nil]
  rw [e6, en]
  have hl : (D.take n).length = n := by rw [List.length_take]; omega
  refine ⟨by simp only [List.length_append, List.length_singleton, hl]; omega, ?_⟩
  have : S ++ (W ++ ([46] ++ D)) = (S ++ (W ++ ([46] ++ D.take n))) ++ D.drop n := by
    simp only [List.append_assoc, List.take_append_drop]
  rw [this, List.take_append_of_le_length (Nat.le_refl _), List.take_of_length_le (Nat.le_refl _)]

end Go.Proofs.YtmobbclpfbkkkaaDoor.Pr
