/- The document's text of a number is the program's. -/
import Derived.Test.YtmhhklenaadobaaDoorPuK
import Derived.Test.YtmhhklenaadobaaDoorPr24
namespace Go.Proofs.YtmhhklenaadobaaDoor.Pr
open Go Go.RowKit Go.Proofs.YtmhhklenaadobaaDoorW.PrintWords Go.Proofs.YtmhhklenaadobaaDoorW.PrintLast Go.Proofs.YtmhhklenaadobaaDoorW.PrintMore

/-- the last k digits -/
def padD : Nat → Nat → List UInt8
  | 0, _ => []
  | k + 1, u => padD k (u / 10) ++ [UInt8.ofNat (48 + u % 10)]
theorem padD_length (k : Nat) : ∀ u, (padD k u).length = k := by
  induction k with
  | zero => intro u; rfl
  | succ k ih => intro u; rw [padD, List.length_append, ih]; rfl
theorem padD_zero (k : Nat) : padD k 0 = List.replicate k 48 := by
  induction k with
  | zero => rfl
  | succ k ih => rw [padD, Nat.zero_div, ih, List.replicate_succ']; rfl
theorem padD_dec (k : Nat) : ∀ u, 10 ^ k ≤ u → Lib.decDigits u = Lib.decDigits (u / 10 ^ k) ++ padD k u := by
  induction k with
  | zero => intro u _; simp [padD]
  | succ k ih =>
    intro u hu
    rw [Nat.pow_succ] at hu
    have h1 : 10 ^ k ≤ u / 10 := by omega
    have hp : 0 < 10 ^ k := Nat.pos_of_ne_zero (by simp)
    rw [dec_snoc u (by omega), ih (u / 10) h1, padD, Nat.div_div_eq_div_mul, Nat.pow_succ, Nat.mul_comm 10 (10 ^ k), List.append_assoc]
theorem padD_pad (k : Nat) : ∀ u, u < 10 ^ (k + 1) → List.replicate (k + 1 - Lib.nDigits u) 48 ++ Lib.decDigits u = padD (k + 1) u ∧ Lib.nDigits u ≤ k + 1 := by
  induction k with
  | zero =>
    intro u hu
    have hu : u < 10 := by simpa using hu
    rw [Lib.nDigits_small hu, dec_one u hu]
    refine ⟨?_, by omega⟩
    simp only [padD]
    rw [show u % 10 = u by omega]; rfl
  | succ k ih =>
    intro u hu
    by_cases h : u < 10
    · rw [Lib.nDigits_small h, dec_one u h]
      refine ⟨?_, by omega⟩
      rw [padD, show u / 10 = 0 by omega, show u % 10 = u by omega, padD_zero]
      rfl
    · obtain ⟨h1, h2⟩ := ih (u / 10) (by rw [Nat.pow_succ] at hu; omega)
      rw [Lib.nDigits_big h, dec_snoc u h]
      refine ⟨?_, by omega⟩
      rw [padD, ← h1, List.append_assoc, show k + 1 + 1 - (Lib.nDigits (u / 10) + 1) = k + 1 - Lib.nDigits (u / 10) by omega]
/-- the digits of a size, at least seven -/
theorem padded (u : Nat) (hu : u < 18446744073709551616) : List.replicate (7 - Lib.nDigits u) 48 ++ Lib.decDigits u = Lib.decDigits (u / 1000000) ++ padD 6 u := by
  by_cases h : u < 1000000
  · obtain ⟨h1, h2⟩ := padD_pad 6 u (by omega)
    rw [h1, show u / 1000000 = 0 by omega]
    have : padD 7 u = padD 1 (u / 1000000) ++ padD 6 u := by
      simp only [padD, List.nil_append, Nat.div_div_eq_div_mul, List.append_assoc]
    rw [this, show u / 1000000 = 0 by omega, dec_one 0 (by omega)]
    rfl
  · have e := padD_dec 6 u (by omega)
    have hn : 7 ≤ Lib.nDigits u := by
      have := Lib.decDigits_length u
      rw [e, List.length_append, padD_length, Lib.decDigits_length] at this
      have := Lib.nDigits_pos (u / 10 ^ 6)
      omega
    rw [show 7 - Lib.nDigits u = 0 by omega, e]
    rfl
theorem padD_six (u : Nat) : padD 6 u = (Lib.decDigits (1000000 + u % 1000000)).drop 1 := by
  rw [six _ (Nat.mod_lt _ (by omega))]
  simp only [padD, List.nil_append, List.cons_append, Nat.div_div_eq_div_mul]
  rw [show u / (10 * 10 * 10 * 10 * 10) % 10 = u % 1000000 / 100000 % 10 by omega, show u / (10 * 10 * 10 * 10) % 10 = u % 1000000 / 10000 % 10 by omega, show u / (10 * 10 * 10) % 10 = u % 1000000 / 1000 % 10 by omega,
    show u / (10 * 10) % 10 = u % 1000000 / 100 % 10 by omega, show u / 10 % 10 = u % 1000000 / 10 % 10 by omega, show u % 10 = u % 1000000 % 10 by omega]

theorem refText_j2 (a : Int) (W P : List UInt8) (h : W.length + P.length ≤ 1000) : Ev (fun k => scriberef05_Text.j2 k a (B W) (B P)) (B ((if a < 0 then [45] else []) ++ (W ++ (if P = [] then [] else 46 :: P)))) := by
  refine Ev.succ ?_
  simp only [scriberef05_Text.j2, show (⟨#[46]⟩ : ByteArray) = B [46] from rfl, show (⟨#[45]⟩ : ByteArray) = B [45] from rfl, B_append, B_size, List.length_append, List.length_cons, List.singleton_append]
  cases P with
  | nil =>
    refine Ev.neg (by simp) ?_
    rw [if_pos rfl, List.append_nil]
    by_cases ha : a < 0
    · refine Ev.pos ha (Ev.pos (by omega) (Ev.const ?_))
      rw [if_pos ha]; rfl
    · refine Ev.neg ha (Ev.const ?_)
      rw [if_neg ha]; rfl
  | cons c P =>
    simp only [List.length_cons] at h
    refine Ev.pos (by simp) (Ev.pos (by simp only [List.length_cons]; omega) (Ev.pos (by simp only [List.length_cons]; omega) ?_))
    rw [if_neg (show ¬ (c :: P = []) by simp)]
    by_cases ha : a < 0
    · refine Ev.pos ha (Ev.pos (by simp only [List.length_cons]; omega) (Ev.const ?_))
      rw [if_pos ha]; rfl
    · refine Ev.neg ha (Ev.const ?_)
      rw [if_neg ha]; rfl
theorem refText_l1 (a : Int) (W : List UInt8) (n : Nat) : ∀ P : List UInt8, P.length = n → W.length + n ≤ 1000 →
    Ev (fun k => scriberef05_Text.l1 k a (B W) (B P)) (B ((if a < 0 then [45] else []) ++ (W ++ (if Lib.trimRightB P 48 = [] then [] else 46 :: Lib.trimRightB P 48)))) := by
  induction n with
  | zero =>
    intro P hP hn
    obtain rfl := List.eq_nil_of_length_eq_zero hP
    refine Ev.succ ?_
    simp only [scriberef05_Text.l1]
    exact Ev.neg (by decide) (refText_j2 a W [] (by simp; omega))
  | succ n ih =>
    intro P hP hn
    rcases List.eq_nil_or_concat P with rfl | ⟨m, d, rfl⟩
    · simp at hP
    · rw [List.concat_eq_append] at *
      have hml : m.length = n := by simpa using hP
      have hsz : ((B (m ++ [d])).size : Int) = n + 1 := by rw [B_size, hP]; omega
      refine Ev.succ ?_
      simp only [scriberef05_Text.l1]
      rw [hsz, w64 (n := (n : Int) + 1 - 1) (by omega) (by omega), show (n : Int) + 1 - 1 = n by omega]
      have hb : bt (B (m ++ [d])) (n : Int) = d.toNat := by
        rw [bt_B _ _ (by simp; omega)]
        simp [← hml]
      rw [hb, trimRB_snoc]
      refine Ev.pos (by omega) (Ev.pos (by omega) (Ev.pos (by omega) ?_))
      by_cases hd : d = 48
      · subst hd
        refine Ev.pos rfl (Ev.pos (by omega) ?_)
        rw [show ((48 : UInt8) == 48) = true by decide, if_pos rfl, B_extract, Int.toNat_natCast]
        simp only [List.drop_zero, Nat.sub_zero]
        rw [List.take_left' hml]
        exact ih m hml (by omega)
      · refine Ev.neg (fun h => hd (u8_ext (by show d.toNat = 48; omega))) ?_
        rw [show (d == 48) = false by simpa using hd]
        exact refText_j2 a W (m ++ [d]) (by rw [hP]; omega)
theorem refText_l0 (a : Int) (W P : List UInt8) (hP : P.length = 6) (hW : W.length ≤ 900) (n : Nat) : ∀ (m : Nat) (F : List UInt8), n = 7 - F.length → List.replicate n 48 ++ F = W ++ P → F.length = m →
    Ev (fun k => scriberef05_Text.l0 k a (B F)) (B ((if a < 0 then [45] else []) ++ (W ++ (if Lib.trimRightB P 48 = [] then [] else 46 :: Lib.trimRightB P 48)))) := by
  induction n with
  | zero =>
    intro m F hn hF hm
    rw [List.replicate_zero, List.nil_append] at hF
    have hl : F.length = W.length + 6 := by rw [hF, List.length_append, hP]
    refine Ev.succ ?_
    simp only [scriberef05_Text.l0]
    refine Ev.neg (by rw [B_size]; omega) ?_
    have hw : wrap64 (((B F).size : Int) - 6) = ((W.length : Nat) : Int) := by rw [B_size, w64 (by omega) (by omega)]; omega
    rw [hw, B_extract, B_extract, Int.toNat_natCast]
    refine Ev.pos (by omega) (Ev.pos (by rw [B_size]; omega) ?_)
    rw [List.drop_zero, Nat.sub_zero, hF, List.take_left' rfl, List.drop_left' rfl, List.take_of_length_le (by rw [B_size, List.length_append]; omega)]
    exact refText_l1 a W 6 P hP (by omega)
  | succ n ih =>
    intro m F hn hF hm
    refine Ev.succ ?_
    simp only [scriberef05_Text.l0, show (⟨#[48]⟩ : ByteArray) = B [48] from rfl, B_append]
    refine Ev.pos (by rw [B_size]; omega) (Ev.pos (by rw [B_size]; omega) ?_)
    refine ih (m + 1) ([48] ++ F) (by rw [List.length_append, List.length_singleton]; omega) ?_ (by rw [List.length_append, List.length_singleton]; omega)
    rw [← hF, List.replicate_succ', List.append_assoc]
theorem refText_ev (a : Int) (h0 : -4611686018427387903 ≤ a) (h1 : a ≤ 4611686018427387903) : Ev (fun k => scriberef05_Text.f k a) (B (textS a)) := by
  unfold scriberef05_Text.f
  refine Ev.bindc (Size_some a (by omega) (by omega)) (Ev.bind' (digits_ev _ (by omega)) ?_)
  have hn := nDigits_le (a.natAbs / 1000000) (by omega)
  have := refText_l0 a (Lib.decDigits (a.natAbs / 1000000)) (padD 6 a.natAbs) (padD_length 6 _) (by rw [Lib.decDigits_length]; omega) (7 - (Lib.decDigits a.natAbs).length) _ (Lib.decDigits a.natAbs) rfl (by rw [Lib.decDigits_length]; exact padded _ (by omega)) rfl
  rw [padD_six] at this
  unfold textS textAbs
  have e : (if Lib.trimRightB ((Lib.decDigits (1000000 + a.natAbs % 1000000)).drop 1) 48 = [] then [] else 46 :: Lib.trimRightB ((Lib.decDigits (1000000 + a.natAbs % 1000000)).drop 1) 48) = (if a.natAbs % 1000000 = 0 then [] else 46 :: places (a.natAbs % 1000000)) := by
    have hp := partial_places (a.natAbs % 1000000) (Nat.mod_lt _ (by omega))
    unfold places at hp ⊢
    by_cases hz : a.natAbs % 1000000 = 0
    · rw [hz, six 0 (by omega)]; decide
    · rw [if_neg hz, if_neg]
      intro h
      rw [h] at hp
      exact hz hp.symm
  rw [e] at this
  exact this

end Go.Proofs.YtmhhklenaadobaaDoor.Pr
