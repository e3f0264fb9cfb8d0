/- A set has the bytes of a text: the pure statement. -/
import Derived.Test.YtdjnjhmmpjbbaaaPuRxW2
import Derived.Test.YtdjnjhmmpjbbaaaPuRxG
import Derived.Test.YtdjnjhmmpjbbaaaPr32
set_option linter.unusedVariables false
set_option linter.unusedSimpArgs false
namespace Go.Proofs.Ytdjnjhmmpjbbaaa.Pr
open Go Go.RowKit Go.Proofs.YtdjnjhmmpjbbaaaW.PrintWords Go.Proofs.YtdjnjhmmpjbbaaaW.PrintLast Go.Proofs.YtdjnjhmmpjbbaaaW.PrintMore

theorem awake9_sets : Ev (fun k => scribelaw09_awake.f k) true := ⟨30, fun k hk => by show scribelaw09_awake.f k = some true; unfold scribelaw09_awake.f; rw [if_pos hk]⟩
theorem prLeaf (w : RSet) : prL ⟨1, w, []⟩ = 49 :: wordsL w := by
  rw [prL]
  simp [headB, prKs, mn, mx]
theorem print_leaf (w : RSet) (h : okS w) : Ev (fun q => regex_Print.f q 1 w.f0 w.f1 w.f2 w.f3 []) (B (49 :: wordsL w)) := by
  have := print_ev _ ⟨1, w, []⟩ rfl (OkT.mk h (by simp)) (by rw [prLeaf, words_F w h, List.length_cons, wordsF_len]; decide)
  rw [prLeaf] at this
  exact this
theorem refPrint_leaf (l : List UInt8) (hl : l.length ≤ 100000) : Ev (fun k => scriberef09_Print.f k 1 (B l) []) (B (49 :: wordsF (memb l) 4)) := by
  refine Ev.succ ?_
  simp only [scriberef09_Print.f]
  rw [w64 (n := (1 : Int) + 1) (by omega) (by omega), show (1 : Int) + 1 = 2 from rfl]
  refine Ev.pos (by decide) (Ev.pos (by decide) (Ev.pos (by decide) (Ev.pos trivial (Ev.bind' (refWords_ev l hl) ?_))))
  have he : ((⟨#[101, 49, 38, 124, 42, 43, 63, 94, 36]⟩ : ByteArray).extract (1 : Int).toNat (2 : Int).toNat) = B [49] := rfl
  rw [he]
  have hs : (B [49]).size + (B (wordsF (memb l) 4)).size ≤ 9223372036854775807 := by
    rw [B_size, B_size, wordsF_len]; decide
  refine Ev.pos hs ?_
  rw [B_append]
  refine Ev.succ ?_
  simp only [scriberef09_Print.j0]
  refine Ev.succ ?_
  simp only [scriberef09_Print.l0]
  exact Ev.neg (by decide) (Ev.now _)
theorem sets_end (l : List UInt8) (c : Nat) (hl : l.length ≤ 300) (hc : c < 256) (i : Int) (hi : (l.length : Int) ≤ i) :
    Ev (fun k => scribelaw09_RegexSets.l0 k (B l) (c : Int) (memb l c) i (foldW l).f0 (foldW l).f1 (foldW l).f2 (foldW l).f3) true := by
  have hok := fold_ok l
  have hokn := okS_not (foldW l)
  have hnn := not_not _ hok
  have b1 : bitS (foldW l) c = memb l c := bit_fold l c hc
  have b2 : bitS (notW (foldW l)) c = !(memb l c) := by rw [bit_not _ hok c hc, b1]
  have w1 : wordsL (foldW l) = wordsF (memb l) 4 := by
    rw [words_F _ hok]
    exact wordsF_congr _ _ fun c hc => bit_fold l c hc
  have w2 : wordsL (notW (foldW l)) = wordsF (memb (bytesF l true 256)) 4 := by
    rw [words_F _ hokn]
    refine wordsF_congr _ _ fun c hc => ?_
    rw [bit_not _ hok c hc, bit_fold l c hc, memb_bytes l true c hc]
    cases memb l c <;> rfl
  have hp1 := print_leaf _ hok
  have hp2 := print_leaf _ hokn
  have hr1 := refPrint_leaf l (by omega)
  have hbl : (bytesF l true 256).length ≤ 256 := by
    unfold bytesF
    rw [List.length_map]
    exact Nat.le_trans (List.length_filter_le _ _) (by simp)
  have hr2 := refPrint_leaf (bytesF l true 256) (by omega)
  have hby := refBytes_ev l true (by omega)
  rw [w1] at hp1
  rw [w2] at hp2
  have hn1 := not_ev (foldW l)
  have hn2 := not_ev (notW (foldW l))
  rw [hnn] at hn2
  have hh1 := has_ev (foldW l) hok c hc
  have hh2 := has_ev (notW (foldW l)) hokn c hc
  rw [b1] at hh1
  rw [b2] at hh2
  refine Ev.succ ?_
  simp only [scribelaw09_RegexSets.l0]
  refine Ev.neg (by rw [B_size]; omega) (Ev.bindc hn1 (Ev.bind' awake9_sets (Ev.pos rfl (Ev.bindc hh1 (Ev.pos (by simp) (Ev.bindc hn1 (Ev.bindc hh2 (Ev.pos (by simp) (Ev.bindc hn1 (Ev.bindc hn2 (Ev.pos (by simp) ?_)))))))))))
  refine Ev.bind' hp1 (Ev.bind' hr1 (Ev.pos rfl (Ev.bind' hp2 (Ev.bind' hby (Ev.bind' hr2 ?_)))))
  exact Ev.const (by simp)
theorem sets_rounds (l : List UInt8) (c : Nat) (hl : l.length ≤ 300) (hc : c < 256) (d : Nat) : ∀ i : Nat, i + d = l.length →
    Ev (fun k => scribelaw09_RegexSets.l0 k (B l) (c : Int) (memb (l.take i) c) (i : Int) (foldW (l.take i)).f0 (foldW (l.take i)).f1 (foldW (l.take i)).f2 (foldW (l.take i)).f3) true := by
  induction d with
  | zero =>
    intro i hi
    rw [List.take_of_length_le (by omega)]
    exact sets_end l c hl hc _ (by omega)
  | succ d ih =>
    intro i hi
    have hn := ih (i + 1) (by omega)
    have hlt : i < l.length := by omega
    rw [List.take_succ_eq_append_getElem hlt, foldW_snoc, memb_snoc] at hn
    have hb := bt_B l i hlt
    have hr := UInt8.toNat_lt l[i]
    refine Ev.succ ?_
    simp only [scribelaw09_RegexSets.l0]
    rw [hb, w64 (n := (i : Int) + 1) (by omega) (by omega)]
    refine Ev.pos (by rw [B_size]; omega) (Ev.pos (by omega) (Ev.bindc (with_ev (foldW (l.take i)) ((l[i].toNat : Nat) : Int) (by omega) (by omega)) ?_))
    have e : (((i + 1 : Nat)) : Int) = (i : Int) + 1 := by omega
    rw [e] at hn
    cases hm : memb (l.take i) c with
    | true =>
      rw [hm, Bool.true_or] at hn
      exact Ev.pos rfl hn
    | false =>
      rw [hm, Bool.false_or] at hn
      refine Ev.neg (by decide) ?_
      have eb : ((l[i].toNat : Int) == (c : Int)) = decide (c = l[i].toNat) := by
        rw [Bool.eq_iff_iff, beq_iff_eq, decide_eq_true_eq]
        omega
      rw [eb]
      exact hn
theorem RegexSets_ev (a0 : ByteArray) (a1 : Int) (_w0 : a0.size ≤ 140737488351232) (w1 : (Lit.int .u8 a1).wf = true) : Ev (fun k => scribelaw09_RegexSets.f k a0 a1) true := by
  simp [Lit.wf] at w1
  rw [show IntKind.u8.min = 0 from rfl, show IntKind.u8.max = 255 from rfl] at w1
  obtain ⟨c, rfl⟩ := Int.eq_ofNat_of_zero_le w1.1
  refine Ev.bindc (cut_B a0 300) ?_
  have hl := List.length_take_le 300 a0.data.toList
  have := sets_rounds (a0.data.toList.take 300) c (by omega) (by omega) _ 0 (Nat.zero_add _)
  rw [List.take_zero] at this
  exact this
end Go.Proofs.Ytdjnjhmmpjbbaaa.Pr
