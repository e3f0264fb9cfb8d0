/- The document's Same, at trees that were told. -/
import Derived.Test.YtgkojnpbgkglgaaDoorPuAsRA
import Derived.Test.YtgkojnpbgkglgaaDoorPr11
set_option linter.unusedVariables false
set_option linter.unusedSimpArgs false
namespace Go.Proofs.YtgkojnpbgkglgaaDoor.Pr
open Go Go.RowKit Go.Proofs.YtgkojnpbgkglgaaDoorW.PrintWords Go.Proofs.YtgkojnpbgkglgaaDoorW.PrintLast Go.Proofs.YtgkojnpbgkglgaaDoorW.PrintMore

theorem tlL_len (l : List ANode) : (tlL l).length = l.length := by rw [tlL_map, List.length_map]
theorem tlL_get (l : List ANode) (i : Nat) (h : i < l.length) : rd_T29 (tlL l) (i : Int) = tlN l[i] := by
  rw [tlL_map]
  simp [rd_T29, h]
theorem rsame_ev (sz : Nat) : ∀ m n : ANode, sizeT m ≤ sz → sizeT m ≤ 1000000000000 → Ev (fun k => scriberef12_Same.f k m.f0 m.f1 m.f2 (tlL m.f3) n.f0 n.f1 n.f2 (tlL n.f3)) (sameT m n) := by
  induction sz with
  | zero => intro m n h; have := allT_pos 0 m; unfold sizeT at h; omega
  | succ sz ih =>
    rintro ⟨o, t, a, ks⟩ ⟨o', t', a', ms⟩ hsz hb
    have hlen : sizeT ⟨o, t, a, ks⟩ = (allKs 0 ks).length + 1 := by unfold sizeT; rw [allT_eq, List.length_cons]; simp only; rw [allKs_lend (0 + 1) 0]
    rw [hlen] at hsz hb
    have hkl := allKs_len 0 ks
    dsimp only
    have loop : ks.length = ms.length → ∀ (m i : Nat), ks.length - i = m → i ≤ ks.length →
        Ev (fun k => scriberef12_Same.l0 k (ks.length : Int) (i : Int) o t a (tlL ks) o' t' a' (tlL ms)) (sameL (ks.drop i) (ms.drop i)) := by
      intro hl m
      induction m with
      | zero =>
        intro i hm hi
        refine Ev.succ ?_
        simp only [scriberef12_Same.l0]
        refine Ev.neg (by omega) ?_
        rw [List.drop_of_length_le (by omega), List.drop_of_length_le (by omega), sameL]
        exact Ev.now _
      | succ m ihm =>
        intro i hm hi
        have hlt : i < ks.length := by omega
        have hlt2 : i < ms.length := by omega
        have hk := kid_len i hlt 0
        refine Ev.succ ?_
        simp only [scriberef12_Same.l0, tlL_len]
        refine Ev.pos (by omega) (Ev.pos (by omega) (Ev.pos (by omega) (Ev.pos (by omega) ?_)))
        rw [tlL_get ks i hlt, tlL_get ms i hlt2, tlN_eq, tlN_eq]
        refine Ev.bind' (ih ks[i] ms[i] (by unfold sizeT; omega) (by unfold sizeT; omega)) ?_
        rw [w64 (by omega) (by omega), sameL_drop i hlt hlt2]
        have := ihm (i + 1) (by omega) (by omega)
        cases hs : sameT ks[i] ms[i] with
        | true => exact Ev.pos rfl (by simpa using this)
        | false => exact Ev.neg (by decide) (Ev.now _)
    have fal : Ev (fun k => scriberef12_Same.j0 k true o t a (tlL ks) o' t' a' (tlL ms)) false := by
      refine Ev.succ ?_
      simp only [scriberef12_Same.j0]
      exact Ev.pos trivial (Ev.now _)
    refine Ev.succ ?_
    simp only [scriberef12_Same.f]
    rw [sameT]
    by_cases ho : o.toList = o'.toList
    · refine Ev.pos ho ?_
      by_cases ht : t.toList = t'.toList
      · refine Ev.pos ht ?_
        have e1 : (o.toList == o'.toList) = true := by rw [ho]; exact beq_self_eq_true _
        have e2 : (t.toList == t'.toList) = true := by rw [ht]; exact beq_self_eq_true _
        rw [e1, e2, Bool.true_and, Bool.true_and]
        by_cases hl : ks.length = ms.length
        · have e : (((tlL ks).length : Int) != ((tlL ms).length : Int)) = false := by rw [tlL_len, tlL_len, hl]; simp
          rw [e]
          refine Ev.succ ?_
          simp only [scriberef12_Same.j0, tlL_len]
          refine Ev.neg (by decide) ?_
          have := loop hl ks.length 0 (by omega) (by omega)
          simpa using this
        · have e : (((tlL ks).length : Int) != ((tlL ms).length : Int)) = true := by rw [tlL_len, tlL_len]; simp; omega
          rw [e, sameL_len ks ms hl]
          exact fal
      · have e2 : (t.toList == t'.toList) = false := by simpa using ht
        rw [e2, Bool.and_false, Bool.false_and]
        exact Ev.neg ht fal
    · have e1 : (o.toList == o'.toList) = false := by simpa using ho
      rw [e1, Bool.false_and, Bool.false_and]
      exact Ev.neg ho fal
theorem rsame_calls (m n : ANode) (A : Option Addr) (c : Nat) (B : Option Addr) (d : Nat) (W : World) (hs : sizeT m ≤ 1000000000000) (hC : Kd.C kRN W A (tlL m.f3).length (tlL m.f3)) (hc : m.f3.length ≤ c) (hD : Kd.C kRN W B (tlL n.f3).length (tlL n.f3)) (hd : n.f3.length ≤ d) (hT : TB W) :
    Calls Tryd.prog 18 #[.agg #[.string m.f0, .string m.f1, .int .i64 m.f2, .slice A (tlL m.f3).length c], .agg #[.string n.f0, .string n.f1, .int .i64 n.f2, .slice B (tlL n.f3).length d]] W fun e W' => e = .returned (.bool (sameT m n)) ∧ Below W.heap.size W W' := by
  obtain ⟨k, hk⟩ := Ev.rounds (rsame_ev _ m n (Nat.le_refl _) hs)
  exact scriberef12_Same.calls k _ _ _ A c _ _ _ _ B d _ _ W hC (by rw [tlL_len]; exact hc) hD (by rw [tlL_len]; exact hd) hT hk
theorem rprint_calls (n : ANode) (A : Option Addr) (c : Nat) (w0 W : World) (hT : TB w0) (hs : (prA n).length ≤ 1000000000000) (hc : n.f3.length ≤ c) (hC : Kd.C kRN w0 A (tlL n.f3).length (tlL n.f3)) (hB : Below w0.heap.size w0 W) :
    Calls Tryd.prog 17 #[.agg #[.string n.f0, .string n.f1, .int .i64 n.f2, .slice A (tlL n.f3).length c]] W fun e W' => e = .returned (.string (B (prA n))) ∧ Below w0.heap.size w0 W' := by
  have h := rprint_walk w0 hT _ hs (tlN n) A c W (by rw [prR_told]; exact Nat.le_refl _) (by rw [tlN_eq, tlL_len]; exact hc) (by rw [tlN_eq]; exact hC) hB
  rw [prR_told, tlN_eq] at h
  exact h
theorem rall_calls (n : ANode) (A : Option Addr) (c : Nat) (W : World) (hs : sizeT n ≤ 100000000000) (hc : n.f3.length ≤ c) (hC : Kd.C kRN W A (tlL n.f3).length (tlL n.f3)) :
    Calls Tryd.prog 19 #[.agg #[.string n.f0, .string n.f1, .int .i64 n.f2, .slice A (tlL n.f3).length c], .int .i64 0] W fun e W' => ∃ A' c', e = .returned (.slice A' (sizeT n) c') ∧ sizeT n ≤ c' ∧ Kd.C kFl W' A' (flR 0 (tlN n)).length (flR 0 (tlN n)) ∧ Below W.heap.size W W' := by
  have hl : (flR 0 (tlN n)).length = sizeT n := by rw [fl_told, List.length_map]; rfl
  have h := rall_walk W (sizeT n) (tlN n) A c 0 W (by rw [hl]; exact Nat.le_refl _) (by omega) (by omega) (by rw [tlN_eq, tlL_len]; exact hc) (by rw [tlN_eq]; exact hC) (Below.refl _ _)
  rw [show (tlN n).f0 = n.f0 by rw [tlN_eq], show (tlN n).f1 = n.f1 by rw [tlN_eq], show (tlN n).f2 = n.f2 by rw [tlN_eq], show (tlN n).f3 = tlL n.f3 by rw [tlN_eq]] at h
  refine h.mono ?_
  rintro e W' ⟨v, rfl, hN, hb⟩
  obtain ⟨A', c', rfl⟩ := Kd.N_slice hN
  have h2 := Kd.N_reads' hN
  rw [hl] at h2 ⊢
  exact ⟨A', c', rfl, h2.2.1, h2.2.2, hb⟩
end Go.Proofs.YtgkojnpbgkglgaaDoor.Pr
