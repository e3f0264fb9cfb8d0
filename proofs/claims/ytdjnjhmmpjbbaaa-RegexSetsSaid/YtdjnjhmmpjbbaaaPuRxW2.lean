/- regex: the document's words of a set, and its bytes that a text has or has not; plain Lean. -/
import Derived.Test.YtdjnjhmmpjbbaaaPuRxB
import Derived.Test.YtdjnjhmmpjbbaaaPr16
import Derived.Test.YtdjnjhmmpjbbaaaPr26
set_option linter.unusedVariables false
set_option linter.unusedSimpArgs false
namespace Go.Proofs.Ytdjnjhmmpjbbaaa.Pr
open Go Go.RowKit Go.Proofs.YtdjnjhmmpjbbaaaW.PrintWords Go.Proofs.YtdjnjhmmpjbbaaaW.PrintLast Go.Proofs.YtdjnjhmmpjbbaaaW.PrintMore

def onL (f : Nat → Bool) : List Bool := (List.range 256).map f
theorem onL_len (f : Nat → Bool) : (onL f).length = 256 := by simp [onL]
theorem onL_get (f : Nat → Bool) (c : Nat) (h : c < 256) : rdOf false (onL f) (c : Int) = f c := by
  unfold rdOf onL
  simp [List.getD, h]
theorem onL_set (f g : Nat → Bool) (c : Nat) (h : ∀ x, x < 256 → g x = (f x || decide (x = c))) : (onL f).set c true = onL g := by
  apply List.ext_getElem
  · simp [onL]
  · intro i h1 h2
    have hi : i < 256 := by simpa [onL] using h2
    rw [List.getElem_set]
    simp only [onL, List.getElem_map, List.getElem_range]
    rw [h i hi]
    by_cases hc : c = i
    · rw [if_pos hc, hc]; simp
    · rw [if_neg hc, decide_eq_false (by omega), Bool.or_false]
theorem hex_ext (d : Nat) (h : d < 16) : (⟨#[48, 49, 50, 51, 52, 53, 54, 55, 56, 57, 97, 98, 99, 100, 101, 102]⟩ : ByteArray).extract ((d : Int)).toNat (((d : Int) + 1)).toNat = B [hexT.data.getD d 0] := by
  have : d = 0 ∨ d = 1 ∨ d = 2 ∨ d = 3 ∨ d = 4 ∨ d = 5 ∨ d = 6 ∨ d = 7 ∨ d = 8 ∨ d = 9 ∨ d = 10 ∨ d = 11 ∨ d = 12 ∨ d = 13 ∨ d = 14 ∨ d = 15 := by omega
  rcases this with rfl | rfl | rfl | rfl | rfl | rfl | rfl | rfl | rfl | rfl | rfl | rfl | rfl | rfl | rfl | rfl <;> rfl
theorem words_l3 (f : Nat → Bool) (p : ByteArray) (q k : Nat) (hq : q < 4) (hk : k ≤ 60) (hps : p.size ≤ 1000) {R : ByteArray}
    (h : Ev (fun n => scriberef09_Words.l2 n (onL f) (p ++ B [hexT.data.getD (nibV f (64 * q + k)) 0]) (q : Int) ((k : Int) - 4)) R) : Ev (fun n => scriberef09_Words.l3 n (onL f) p (q : Int) (k : Int) 0 3) R := by
  have hidx : ∀ b : Nat, b ≤ 3 → wrap64 ((wrap64 ((wrap64 (64 * (q : Int))) + (k : Int))) + (b : Int)) = ((64 * q + k + b : Nat) : Int) := by
    intro b hb
    rw [w64 (n := 64 * (q : Int)) (by omega) (by omega), w64 (n := 64 * (q : Int) + (k : Int)) (by omega) (by omega), w64 (by omega) (by omega)]
    omega
  have step : ∀ (b : Nat) (d : Nat), b ≤ 3 → d ≤ 7 → Ev (fun n => scriberef09_Words.l3 n (onL f) p (q : Int) (k : Int) ((2 * d + (f (64 * q + k + b)).toNat : Nat) : Int) ((b : Int) - 1)) R → Ev (fun n => scriberef09_Words.l3 n (onL f) p (q : Int) (k : Int) (d : Int) (b : Int)) R := by
    intro b d hb hd hn
    refine Ev.succ ?_
    simp only [scriberef09_Words.l3]
    rw [hidx b hb, onL_get f _ (by omega), onL_len, w64 (n := (b : Int) - 1) (by omega) (by omega), w64 (n := 2 * (d : Int)) (by omega) (by omega), w64 (n := 2 * (d : Int) + 1) (by omega) (by omega)]
    refine Ev.pos (by omega) (Ev.pos (by omega) (Ev.pos (by omega) ?_))
    cases hf : f (64 * q + k + b) with
    | true =>
      rw [hf] at hn
      refine Ev.pos rfl ?_
      have e : ((2 * d + true.toNat : Nat) : Int) = 2 * (d : Int) + 1 := by simp
      rw [e] at hn
      exact hn
    | false =>
      rw [hf] at hn
      refine Ev.neg (by decide) ?_
      have e : ((2 * d + false.toNat : Nat) : Int) = 2 * (d : Int) := by simp
      rw [e] at hn
      exact hn
  have fin : Ev (fun n => scriberef09_Words.l3 n (onL f) p (q : Int) (k : Int) ((nibV f (64 * q + k) : Nat) : Int) (-1)) R := by
    have hb : ∀ x : Bool, x.toNat ≤ 1 := by intro x; cases x <;> decide
    have hlt : nibV f (64 * q + k) < 16 := by
      unfold nibV
      have := hb (f (64 * q + k + 3)); have := hb (f (64 * q + k + 2)); have := hb (f (64 * q + k + 1)); have := hb (f (64 * q + k))
      omega
    refine Ev.succ ?_
    simp only [scriberef09_Words.l3]
    generalize nibV f (64 * q + k) = d at h hlt ⊢
    rw [w64 (n := (d : Int) + 1) (by omega) (by omega), w64 (n := (k : Int) - 4) (by omega) (by omega), hex_ext d hlt]
    exact Ev.neg (by decide) (Ev.pos (by omega) (Ev.pos (by omega) (Ev.pos (by omega) (Ev.pos (by rw [B_size]; simp only [List.length_cons, List.length_nil]; omega) h))))
  have hv : nibV f (64 * q + k) = 2 * (2 * (2 * (2 * 0 + (f (64 * q + k + 3)).toNat) + (f (64 * q + k + 2)).toNat) + (f (64 * q + k + 1)).toNat) + (f (64 * q + k + 0)).toNat := by unfold nibV; simp only [Nat.add_zero]; omega
  have hb : ∀ x : Bool, x.toNat ≤ 1 := by intro x; cases x <;> decide
  have b3 := hb (f (64 * q + k + 3)); have b2 := hb (f (64 * q + k + 2)); have b1 := hb (f (64 * q + k + 1))
  rw [hv] at fin
  exact step 3 0 (by omega) (by omega) (step 2 _ (by omega) (by omega) (step 1 _ (by omega) (by omega) (step 0 _ (by omega) (by omega) fin)))
theorem wordF_snoc (f : Nat → Bool) (q n : Nat) : wordF f q (n + 1) = wordF f q n ++ [hexT.data.getD (nibV f (64 * q + (60 - 4 * n))) 0] := by simp [wordF, List.range_succ]
theorem wordsF_snoc (f : Nat → Bool) (n : Nat) : wordsF f (n + 1) = wordsF f n ++ wordF f n 16 := by simp [wordsF, List.range_succ]
theorem wordF_len (f : Nat → Bool) (q n : Nat) : (wordF f q n).length = n := by simp [wordF]
theorem wordsF_len (f : Nat → Bool) (n : Nat) : (wordsF f n).length = 16 * n := by
  induction n with
  | zero => rfl
  | succ n ih => rw [wordsF_snoc, List.length_append, ih, wordF_len]; omega
theorem words_l2 (f : Nat → Bool) (q : Nat) (hq : q < 4) {R : ByteArray} (h : Ev (fun n => scriberef09_Words.l1 n (onL f) (B (wordsF f (q + 1))) ((q + 1 : Nat) : Int)) R) (d : Nat) : ∀ j : Nat, j + d = 16 →
    Ev (fun n => scriberef09_Words.l2 n (onL f) (B (wordsF f q ++ wordF f q j)) (q : Int) (60 - 4 * (j : Int))) R := by
  induction d with
  | zero =>
    intro j hj
    obtain rfl : j = 16 := by omega
    rw [wordsF_snoc] at h
    refine Ev.succ ?_
    simp only [scriberef09_Words.l2]
    rw [w64 (n := (q : Int) + 1) (by omega) (by omega)]
    exact Ev.neg (by decide) h
  | succ d ih =>
    intro j hj
    have hn := ih (j + 1) (by omega)
    rw [wordF_snoc, ← List.append_assoc, ← B_append] at hn
    refine Ev.succ ?_
    simp only [scriberef09_Words.l2]
    have e : (60 - 4 * (j : Int)) = ((60 - 4 * j : Nat) : Int) := by omega
    rw [e]
    have hl1 := wordsF_len f q
    have hl2 := wordF_len f q j
    refine Ev.pos (by omega) (words_l3 f _ q (60 - 4 * j) hq (by omega) (by rw [B_size, List.length_append]; omega) ?_)
    have e2 : (((60 - 4 * j : Nat) : Int) - 4) = 60 - 4 * ((j + 1 : Nat) : Int) := by omega
    rw [e2]
    exact hn
theorem words_l1 (f : Nat → Bool) (d : Nat) : ∀ q : Nat, q + d = 4 → Ev (fun n => scriberef09_Words.l1 n (onL f) (B (wordsF f q)) (q : Int)) (B (wordsF f 4)) := by
  induction d with
  | zero =>
    intro q hq
    obtain rfl : q = 4 := by omega
    refine Ev.succ ?_
    simp only [scriberef09_Words.l1]
    exact Ev.neg (by decide) (Ev.now _)
  | succ d ih =>
    intro q hq
    refine Ev.succ ?_
    simp only [scriberef09_Words.l1]
    have := words_l2 f q (by omega) (ih (q + 1) (by omega)) 16 0 (by omega)
    have e : wordsF f q ++ wordF f q 0 = wordsF f q := by simp [wordF]
    rw [e] at this
    exact Ev.pos (by omega) this
theorem words_l0 (l : List UInt8) (hl : l.length ≤ 100000) (d : Nat) : ∀ i : Nat, i + d = l.length → Ev (fun n => scriberef09_Words.l0 n (B l) (onL (memb (l.take i))) (i : Int)) (B (wordsF (memb l) 4)) := by
  induction d with
  | zero =>
    intro i hi
    rw [List.take_of_length_le (by omega)]
    refine Ev.succ ?_
    simp only [scriberef09_Words.l0]
    exact Ev.neg (by rw [B_size]; omega) (words_l1 (memb l) 4 0 rfl)
  | succ d ih =>
    intro i hi
    have hlt : i < l.length := by omega
    have hn := ih (i + 1) (by omega)
    refine Ev.succ ?_
    simp only [scriberef09_Words.l0]
    have hb := UInt8.toNat_lt l[i]
    rw [bt_B l i hlt, w64 (n := (i : Int) + 1) (by omega) (by omega), onL_len]
    refine Ev.pos (by rw [B_size]; omega) (Ev.pos (by omega) (Ev.pos (by omega) (Ev.pos (by omega) ?_)))
    rw [Int.toNat_natCast, onL_set (memb (l.take i)) (memb (l.take (i + 1))) l[i].toNat (fun x hx => by rw [List.take_succ_eq_append_getElem hlt, memb_snoc])]
    exact hn
theorem refWords_ev (l : List UInt8) (hl : l.length ≤ 100000) : Ev (fun n => scriberef09_Words.f n (B l)) (B (wordsF (memb l) 4)) := by
  have := words_l0 l hl l.length 0 (Nat.zero_add _)
  show Ev (fun n => scriberef09_Words.l0 n (B l) (List.replicate 256 false) 0) _
  have e : onL (memb (l.take 0)) = List.replicate 256 false := by
    rw [List.take_zero]
    unfold onL
    rw [show (memb [] : Nat → Bool) = fun _ => false from rfl, List.map_const']
    simp
  rw [e] at this
  exact this
def bytesF (l : List UInt8) (b : Bool) (n : Nat) : List UInt8 := ((List.range n).filter fun c => memb l c != b).map fun c => c.toUInt8
theorem bytesF_len (l : List UInt8) (b : Bool) (n : Nat) : (bytesF l b n).length ≤ n := by
  unfold bytesF
  rw [List.length_map]
  have := List.length_filter_le (fun c => memb l c != b) (List.range n)
  rwa [List.length_range] at this
theorem bytesF_snoc (l : List UInt8) (b : Bool) (n : Nat) : bytesF l b (n + 1) = if (memb l n != b) = true then bytesF l b n ++ [n.toUInt8] else bytesF l b n := by
  unfold bytesF
  rw [List.range_succ, List.filter_append, List.map_append]
  by_cases h : (memb l n != b) = true
  · rw [if_pos h, List.filter_cons, if_pos h]; simp
  · rw [if_neg h, List.filter_cons, if_neg h]; simp
theorem strNumsB (l : List UInt8) : strOfNums (l.map fun c => (c.toNat : Int)) = B l := by
  unfold strOfNums B
  congr 1
  rw [List.map_map]
  congr 1
  conv => rhs; rw [← List.map_id l]
  apply List.map_congr_left
  intro c _
  simp
theorem bytes_l1 (l : List UInt8) (b : Bool) (out : List Int) (c : Nat) (hl : l.length ≤ 100000) (hc : c < 256) (ho : out.length ≤ 1000) {R : ByteArray}
    (h : Ev (fun n => scriberef09_Bytes.l0 n (B l) b (if (memb l c != b) = true then out ++ [(c : Int)] else out) ((c + 1 : Nat) : Int)) R) (d : Nat) : ∀ i : Nat, i + d = l.length →
    Ev (fun n => scriberef09_Bytes.l1 n (B l) b out (c : Int) (memb (l.take i) c) (i : Int)) R := by
  induction d with
  | zero =>
    intro i hi
    rw [List.take_of_length_le (by omega)]
    refine Ev.succ ?_
    simp only [scriberef09_Bytes.l1]
    rw [w64 (n := (c : Int) + 1) (by omega) (by omega), show ((c : Int)) % 256 = (c : Int) by omega]
    refine Ev.neg (by rw [B_size]; omega) ?_
    by_cases hm : (memb l c != b) = true
    · rw [if_pos hm] at h
      exact Ev.pos hm (Ev.pos (by omega) h)
    · rw [if_neg hm] at h
      exact Ev.neg hm h
  | succ d ih =>
    intro i hi
    have hlt : i < l.length := by omega
    have hn := ih (i + 1) (by omega)
    have hb := UInt8.toNat_lt l[i]
    rw [List.take_succ_eq_append_getElem hlt, memb_snoc] at hn
    refine Ev.succ ?_
    simp only [scriberef09_Bytes.l1]
    rw [w64 (n := (i : Int) + 1) (by omega) (by omega)]
    refine Ev.pos (by rw [B_size]; omega) ?_
    cases hm : memb (l.take i) c with
    | true =>
      rw [hm, Bool.true_or] at hn
      exact Ev.pos rfl hn
    | false =>
      rw [hm, Bool.false_or] at hn
      refine Ev.neg (by decide) (Ev.pos (by omega) ?_)
      rw [bt_B l i hlt, w64 (n := ((l[i]).toNat : Int)) (by omega) (by omega)]
      have e : (((l[i]).toNat : Int) == (c : Int)) = decide (c = (l[i]).toNat) := by
        rw [Bool.eq_iff_iff, beq_iff_eq, decide_eq_true_eq]
        omega
      rw [e]
      exact hn
theorem bytes_l0 (l : List UInt8) (b : Bool) (hl : l.length ≤ 100000) (d : Nat) : ∀ c : Nat, c + d = 256 → Ev (fun n => scriberef09_Bytes.l0 n (B l) b ((bytesF l b c).map fun c => (c.toNat : Int)) (c : Int)) (B (bytesF l b 256)) := by
  induction d with
  | zero =>
    intro c hc
    obtain rfl : c = 256 := by omega
    refine Ev.succ ?_
    simp only [scriberef09_Bytes.l0]
    rw [strNumsB]
    exact Ev.neg (by decide) (Ev.now _)
  | succ d ih =>
    intro c hc
    have hn := ih (c + 1) (by omega)
    refine Ev.succ ?_
    simp only [scriberef09_Bytes.l0]
    refine Ev.pos (by omega) ?_
    have := bytes_l1 l b ((bytesF l b c).map fun c => (c.toNat : Int)) c hl (by omega) (by rw [List.length_map]; have := bytesF_len l b c; omega) (R := B (bytesF l b 256)) (by
      rw [bytesF_snoc] at hn
      by_cases hm : (memb l c != b) = true
      · rw [if_pos hm] at hn ⊢
        rw [List.map_append, List.map_cons, List.map_nil, show ((c.toUInt8.toNat : Nat) : Int) = (c : Int) by simp; omega] at hn
        exact hn
      · rw [if_neg hm] at hn ⊢
        exact hn) l.length 0 (Nat.zero_add _)
    exact this
theorem refBytes_ev (l : List UInt8) (b : Bool) (hl : l.length ≤ 100000) : Ev (fun n => scriberef09_Bytes.f n (B l) b) (B (bytesF l b 256)) := by
  have := bytes_l0 l b hl 256 0 rfl
  exact this
theorem memb_bytes (l : List UInt8) (b : Bool) (c : Nat) (hc : c < 256) : memb (bytesF l b 256) c = (memb l c != b) := by
  rw [Bool.eq_iff_iff]
  unfold memb bytesF
  simp only [List.any_eq_true, List.mem_map, List.mem_filter, List.mem_range, beq_iff_eq]
  constructor
  · rintro ⟨x, ⟨y, ⟨hy, hm⟩, rfl⟩, hx⟩
    have : y = c := by
      rw [← hx]
      simp
      omega
    rw [← this]
    exact hm
  · intro h
    exact ⟨c.toUInt8, ⟨c, ⟨hc, h⟩, rfl⟩, by simp; omega⟩
end Go.Proofs.Ytdjnjhmmpjbbaaa.Pr
